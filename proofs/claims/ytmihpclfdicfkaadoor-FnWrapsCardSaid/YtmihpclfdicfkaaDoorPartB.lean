/-
  A part of a proof about the given program; what is proved is said where each theorem stands.
-/
import Derived.Test.YtmihpclfdicfkaaDoorFrameA
import Derived.Test.YtmihpclfdicfkaaDoorFrameB
import Derived.Test.YtmihpclfdicfkaaDoorFrameC
import Derived.Test.YtmihpclfdicfkaaDoorFrameD
import Derived.Test.YtmihpclfdicfkaaDoorFrameE
import Derived.Test.YtmihpclfdicfkaaDoorShelf
import Derived.Test.YtmihpclfdicfkaaDoorCodesA
import Derived.Test.YtmihpclfdicfkaaDoorCodesB
import Derived.Test.YtmihpclfdicfkaaDoorCodesC
import Derived.Test.YtmihpclfdicfkaaDoorPartA
namespace Go.Proofs
end Go.Proofs
set_option linter.unusedSimpArgs false
set_option linter.unusedVariables false
set_option maxRecDepth 100000
set_option maxHeartbeats 2000000
namespace Go.Proofs.YtmihpclfdicfkaaDoor.Ab
open Go.Proofs
variable {GG : GV}
theorem IndexFuncWrap_ok (a : List GWrap) (g : FuncId) (caps : List (List D)) (p : GWrap → Bool) (hsz : a.length ≤ 281474976710656) (hp : ∀ x, x ∈ a → Valid PP GG g (.agg x.c :: caps.map .rp) (.d (.bool (p x))) [none]) :
    Valid PP GG F_slices_IndexFunc___impl_Wrap_impl_Wrap_ [.d (.slc 6 (rWrap a)), .d (.fn g caps)] (.d (.int .i64 (idxV p a))) [none, none] := by
  refine v_slices_IndexFunc___impl_Wrap_impl_Wrap_ [.d (.int .i64 (idxV p a))] rfl rfl ?_
  refine W_seq (?_)
  apply W_regS
  · intro K hK
    simp
    repeat' (first | with_reducible exact hK | (with_reducible refine goL_split (fun _ => ?_) (fun _ => ?_) <;> simp) | with_reducible refine And.intro ?_ ?_ | with_reducible exact okay_rfl rfl | with_reducible assumption | omega)
  refine W_seq (W_seq (?_))
  apply W_regS
  · intro K hK
    simp
    repeat' (first | with_reducible exact hK | (with_reducible refine goL_split (fun _ => ?_) (fun _ => ?_) <;> simp) | with_reducible refine And.intro ?_ ?_ | with_reducible exact okay_rfl rfl | with_reducible assumption | omega)
  refine W_block (W_loop (fun n st => ∃ i : Nat, n = a.length - i ∧ i ≤ a.length ∧ (∀ x, x ∈ a.take i → p x = false) ∧
    st = ⟨[], [(0, .d (.slc 6 (rWrap a))), (1, .d (.fn g caps)), (7, .d (.int .i64 a.length)), (8, .d (.int .i64 i))], [], 0⟩) _ ⟨0, rfl, by omega, fun x hx => by simp at hx, rfl⟩ ?_)
  rintro n st ⟨i, rfl, hi, hn, rfl⟩
  refine W_seq (?_)
  apply W_regS
  · intro K hK
    simp
    repeat' (first | with_reducible exact hK | (with_reducible refine goL_split (fun _ => ?_) (fun _ => ?_) <;> simp) | with_reducible refine And.intro ?_ ?_ | with_reducible exact okay_rfl rfl | with_reducible assumption | omega)
  refine W_seq (?_)
  refine W_cond rfl (fun h => W_skip ?_) (fun h => W_exit ?_)
  · simp at h
    have ha := List.getElem?_eq_getElem h
    generalize a[i] = x at ha
    have cp := hp x (List.mem_of_getElem? ha)
    refine W_seq (W_block (W_seq ?_))
    apply W_regS
    · intro K hK
      simp
      repeat' (first | with_reducible exact hK | (with_reducible refine goL_split (fun _ => ?_) (fun _ => ?_) <;> simp) | with_reducible refine And.intro ?_ ?_ | with_reducible exact okay_rfl rfl | with_reducible assumption | omega)
    refine W_seq (?_)
    apply W_regS
    · intro K hK
      simp [ha]
      repeat' (first | with_reducible exact hK | (with_reducible refine callQ (cp) ?_; simp [ha]) | (with_reducible refine goL_split (fun _ => ?_) (fun _ => ?_) <;> simp [ha]) | with_reducible refine And.intro ?_ ?_ | with_reducible exact okay_rfl rfl | with_reducible assumption | omega)
    refine W_cond rfl (fun h2 => W_seq ?_) (fun h2 => W_skip ?_)
    · apply W_regS
      · intro K hK
        simp
        repeat' (first | with_reducible exact hK | (with_reducible refine goL_split (fun _ => ?_) (fun _ => ?_) <;> simp) | with_reducible refine And.intro ?_ ?_ | with_reducible exact okay_rfl rfl | with_reducible assumption | omega)
      have e : idxV p a = i := by unfold idxV; rw [findIdx_hit ha hn h2]
      refine W_ret ?_
      simp [Fin, e]
      all_goals omega
    apply W_regS
    · intro K hK
      simp
      repeat' (first | with_reducible exact hK | (with_reducible refine goL_split (fun _ => ?_) (fun _ => ?_) <;> simp) | with_reducible refine And.intro ?_ ?_ | with_reducible exact okay_rfl rfl | with_reducible assumption | omega)
    exact ⟨a.length - (i + 1), by omega, i + 1, rfl, h, take_all ha hn h2, by simp [gc, closeN, liveA, gcV, gcO, renA, namesAs, namesA]; rw [wrap_id (by omega) (by omega)]⟩
  · simp at h
    rw [if_pos rfl]
    rw [List.take_of_length_le h] at hn
    refine W_seq (?_)
    apply W_regS
    · intro K hK
      simp
      repeat' (first | with_reducible exact hK | (with_reducible refine goL_split (fun _ => ?_) (fun _ => ?_) <;> simp) | with_reducible refine And.intro ?_ ?_ | with_reducible exact okay_rfl rfl | with_reducible assumption | omega)
    have e : idxV p a = -1 := by unfold idxV; rw [findIdx_miss hn]
    refine W_ret ?_
    simp [Fin, e]
    all_goals omega
theorem wrapIndex_ok (r : GRack) (id : Int) (hc : r.cost ≤ 1048576) : Valid PP GG F_I_wrapIndex [.agg r.c, .d (.int .i64 id)] (.d (.int .i64 (idxV (fun x : GWrap => x.fId == id) r.fWraps))) [none, none] := by
  refine v_I_wrapIndex [.d (.int .i64 (idxV (fun x : GWrap => x.fId == id) r.fWraps))] rfl rfl ?_
  have hco : r.cost = r.fWraps.length + sumBy GWrap.cost r.fWraps := rfl
  have ci : Valid PP GG F_slices_IndexFunc___impl_Wrap_impl_Wrap_ [.d (.slc 6 (rWrap r.fWraps)), .d (.fn 75 [[.int .i64 id]])] (.d (.int .i64 (idxV (fun x : GWrap => x.fId == id) r.fWraps))) [none, none] :=
    IndexFuncWrap_ok r.fWraps 75 [[.int .i64 id]] (fun x => x.fId == id) (by omega) (fun x _ => wrapIndex_c1_ok x id)
  generalize idxV (fun x : GWrap => x.fId == id) r.fWraps = v at ci ⊢
  refine W_seq (?_)
  apply W_regS
  · intro K hK
    simp
    repeat' (first | with_reducible exact hK | (with_reducible refine goL_split (fun _ => ?_) (fun _ => ?_) <;> simp) | with_reducible refine And.intro ?_ ?_ | with_reducible exact okay_rfl rfl | with_reducible assumption | omega)
  refine W_seq (?_)
  apply W_regS
  · intro K hK
    simp
    repeat' (first | with_reducible exact hK | (with_reducible refine callQ (ci) ?_; simp) | (with_reducible refine goL_split (fun _ => ?_) (fun _ => ?_) <;> simp) | with_reducible refine And.intro ?_ ?_ | with_reducible exact okay_rfl rfl | with_reducible assumption | omega)
  refine W_ret ?_
  simp [Fin]
  all_goals omega
def peekK (r : GRack) (id : Int) : List UInt8 := if rackOk r = true then (match r.fWraps[(idxV (fun x : GWrap => x.fId == id) r.fWraps).toNat]? with | some x => if idxV (fun x : GWrap => x.fId == id) r.fWraps < 0 then [] else x.fKind | none => []) else []
def peekE (r : GRack) (id : Int) : Int := if rackOk r = true then (match r.fWraps[(idxV (fun x : GWrap => x.fId == id) r.fWraps).toNat]? with | some x => if idxV (fun x : GWrap => x.fId == id) r.fWraps < 0 then 0 else x.fEnds | none => 0) else 0
def peekC (r : GRack) (id : Int) : Int := if rackOk r = true then (if idxV (fun x : GWrap => x.fId == id) r.fWraps < 0 then 2 else 0) else 1
theorem idxV_range {α : Type} (p : α → Bool) (l : List α) : idxV p l = -1 ∨ ∃ (i : Nat) (x : α), idxV p l = i ∧ l[i]? = some x ∧ p x = true := by
  unfold idxV
  cases h : l.findIdx? p with
  | none => exact .inl rfl
  | some i =>
    obtain ⟨h1, h2, _⟩ := List.findIdx?_eq_some_iff_getElem.1 h
    exact .inr ⟨i, l[i], rfl, List.getElem?_eq_getElem h1, h2⟩
theorem i_PeekWrap_ok [MaxL GG] (r : GRack) (id : Int) (hc : r.cost ≤ 1048576) : Valid PP GG F_I_PeekWrap [.agg r.c, .d (.int .i64 id)] (.tup [.d (.str (peekK r id)), .d (.int .i64 (peekE r id)), .d (.int .i64 (peekC r id))]) [none, none] := by
  refine v_I_PeekWrap [.d (.str (peekK r id)), .d (.int .i64 (peekE r id)), .d (.int .i64 (peekC r id))] rfl rfl ?_
  have cr := isRack_ok (GG := GG) r hc
  have ca := wrapIndex_ok (GG := GG) r id hc
  have hk : peekK r id = (if rackOk r = true then (match r.fWraps[(idxV (fun x : GWrap => x.fId == id) r.fWraps).toNat]? with | some x => if idxV (fun x : GWrap => x.fId == id) r.fWraps < 0 then [] else x.fKind | none => []) else []) := rfl
  have he : peekE r id = (if rackOk r = true then (match r.fWraps[(idxV (fun x : GWrap => x.fId == id) r.fWraps).toNat]? with | some x => if idxV (fun x : GWrap => x.fId == id) r.fWraps < 0 then 0 else x.fEnds | none => 0) else 0) := rfl
  have hcc : peekC r id = (if rackOk r = true then (if idxV (fun x : GWrap => x.fId == id) r.fWraps < 0 then 2 else 0) else 1) := rfl
  generalize peekK r id = vk at hk ⊢
  generalize peekE r id = ve at he ⊢
  generalize peekC r id = vc at hcc ⊢
  have hx := idxV_range (fun x : GWrap => x.fId == id) r.fWraps
  generalize idxV (fun x : GWrap => x.fId == id) r.fWraps = at' at ca hk he hcc hx
  generalize rackOk r = b at cr hk he hcc
  cases b with
  | false =>
    rw [if_neg (by simp)] at hk he hcc
    subst hk he hcc
    refine W_seq (?_)
    apply W_regS
    · intro K hK
      simp
      repeat' (first | with_reducible exact hK | (with_reducible refine goL_split (fun _ => ?_) (fun _ => ?_) <;> simp) | with_reducible refine And.intro ?_ ?_ | with_reducible exact okay_rfl rfl | with_reducible assumption | omega)
    refine W_seq (W_seq (?_))
    apply W_regS
    · intro K hK
      simp
      repeat' (first | with_reducible exact hK | (with_reducible refine callQ (cr) ?_; simp) | (with_reducible refine goL_split (fun _ => ?_) (fun _ => ?_) <;> simp) | with_reducible refine And.intro ?_ ?_ | with_reducible exact okay_rfl rfl | with_reducible assumption | omega)
    refine W_cond rfl (fun h => W_seq ?_) (fun h => ?_)
    rotate_left
    · simp at h
    apply W_regS
    · intro K hK
      simp
      repeat' (first | with_reducible exact hK | (with_reducible refine goL_split (fun _ => ?_) (fun _ => ?_) <;> simp) | with_reducible refine And.intro ?_ ?_ | with_reducible exact okay_rfl rfl | with_reducible assumption | omega)
    refine W_ret ?_
    simp [Fin]
    all_goals omega
  | true =>
    rw [if_pos rfl] at hk he hcc
    refine W_seq (?_)
    apply W_regS
    · intro K hK
      simp
      repeat' (first | with_reducible exact hK | (with_reducible refine goL_split (fun _ => ?_) (fun _ => ?_) <;> simp) | with_reducible refine And.intro ?_ ?_ | with_reducible exact okay_rfl rfl | with_reducible assumption | omega)
    refine W_seq (W_seq (?_))
    apply W_regS
    · intro K hK
      simp
      repeat' (first | with_reducible exact hK | (with_reducible refine callQ (cr) ?_; simp) | (with_reducible refine goL_split (fun _ => ?_) (fun _ => ?_) <;> simp) | with_reducible refine And.intro ?_ ?_ | with_reducible exact okay_rfl rfl | with_reducible assumption | omega)
    refine W_cond rfl (fun h => ?_) (fun h => W_skip ?_)
    · simp at h
    refine W_seq (?_)
    apply W_regS
    · intro K hK
      simp
      repeat' (first | with_reducible exact hK | (with_reducible refine callQ (ca) ?_; simp) | (with_reducible refine goL_split (fun _ => ?_) (fun _ => ?_) <;> simp) | with_reducible refine And.intro ?_ ?_ | with_reducible exact okay_rfl rfl | with_reducible assumption | omega)
    rcases hx with rfl | ⟨i, x, rfl, ha, _⟩
    · rw [if_pos (by omega)] at hcc
      have hk2 : vk = [] := by rw [hk]; split <;> simp
      have he2 : ve = 0 := by rw [he]; split <;> simp
      subst hk2 he2 hcc
      refine W_seq (W_seq (?_))
      apply W_regS
      · intro K hK
        simp
        repeat' (first | with_reducible exact hK | (with_reducible refine goL_split (fun _ => ?_) (fun _ => ?_) <;> simp) | with_reducible refine And.intro ?_ ?_ | with_reducible exact okay_rfl rfl | with_reducible assumption | omega)
      refine W_cond rfl (fun h => W_seq ?_) (fun h => ?_)
      rotate_left
      · simp at h
      apply W_regS
      · intro K hK
        simp
        repeat' (first | with_reducible exact hK | (with_reducible refine goL_split (fun _ => ?_) (fun _ => ?_) <;> simp) | with_reducible refine And.intro ?_ ?_ | with_reducible exact okay_rfl rfl | with_reducible assumption | omega)
      refine W_ret ?_
      simp [Fin]
      all_goals omega
    · have hlt := (List.getElem?_eq_some_iff.1 ha).1
      rw [if_neg (by omega)] at hcc
      rw [Int.toNat_natCast, ha] at hk he
      simp only [show ¬ ((i : Int) < 0) by omega, if_false] at hk he
      subst hk he hcc
      refine W_seq (W_seq (?_))
      apply W_regS
      · intro K hK
        simp
        repeat' (first | with_reducible exact hK | (with_reducible refine goL_split (fun _ => ?_) (fun _ => ?_) <;> simp) | with_reducible refine And.intro ?_ ?_ | with_reducible exact okay_rfl rfl | with_reducible assumption | omega)
      refine W_cond rfl (fun h => ?_) (fun h => W_skip ?_)
      · simp at h; omega
      refine W_seq (?_)
      apply W_regD
      · intro K hK
        simp [ha]
        repeat' (first | with_reducible exact hK | (with_reducible refine goL_split (fun _ => ?_) (fun _ => ?_) <;> simp [ha]) | with_reducible refine And.intro ?_ ?_ | with_reducible exact okay_rfl rfl | with_reducible assumption | omega)
      refine W_ret ?_
      simp [Fin]
      all_goals omega
theorem l01Bytes_ok (a : List UInt8) (ha : a.length ≤ 70368744177664) : Valid PP GG F_S_l01Bytes [.d (.slc 1 (bytesD a))] (.own 0 1 (bytesD a)) [none] := by
  refine v_S_l01Bytes [.own 0 1 (bytesD a)] rfl rfl ?_
  refine W_seq (?_)
  apply W_regS
  · intro K hK
    simp
    repeat' (first | with_reducible exact hK | (with_reducible refine goL_split (fun _ => ?_) (fun _ => ?_) <;> simp) | with_reducible refine And.intro ?_ ?_ | with_reducible exact okay_rfl rfl | with_reducible assumption | omega)
  refine W_seq (?_)
  apply W_regS
  · intro K hK
    simp [litA]
    repeat' (first | with_reducible exact hK | (with_reducible refine goL_split (fun _ => ?_) (fun _ => ?_) <;> simp [litA]) | with_reducible refine And.intro ?_ ?_ | with_reducible exact okay_rfl rfl | with_reducible assumption | omega)
  refine W_seq (W_seq (?_))
  apply W_regS
  · intro K hK
    simp
    repeat' (first | with_reducible exact hK | (with_reducible refine goL_split (fun _ => ?_) (fun _ => ?_) <;> simp) | with_reducible refine And.intro ?_ ?_ | with_reducible exact okay_rfl rfl | with_reducible assumption | omega)
  refine W_block (W_loop (fun n st => ∃ i : Nat, n = a.length - i ∧ i ≤ a.length ∧
    st = ⟨[], [(0, .d (.slc 1 (bytesD a))), (3, .sl 0), (4, .d (.int .i64 i))], [(0, .arr 0 0 1 (bytesD (a.take i)))], 1⟩) _ ⟨0, rfl, by omega, rfl⟩ ?_)
  rintro n st ⟨i, rfl, hi, rfl⟩
  refine W_seq (W_seq (?_))
  apply W_regS
  · intro K hK
    simp
    repeat' (first | with_reducible exact hK | (with_reducible refine goL_split (fun _ => ?_) (fun _ => ?_) <;> simp) | with_reducible refine And.intro ?_ ?_ | with_reducible exact okay_rfl rfl | with_reducible assumption | omega)
  refine W_cond rfl (fun h => W_skip ?_) (fun h => W_exit ?_)
  · simp at h
    have hx := List.getElem?_eq_getElem h
    generalize a[i] = x at hx
    have hl : (a.take i).length ≤ a.length := by rw [List.length_take]; omega
    refine W_seq (W_block ?_)
    apply W_regS
    · intro K hK
      simp [hx, limit]
      repeat' (first | with_reducible exact hK | (with_reducible refine goL_split (fun _ => ?_) (fun _ => ?_) <;> simp [hx, limit]) | with_reducible refine And.intro ?_ ?_ | with_reducible exact okay_rfl rfl | with_reducible assumption | omega)
    apply W_regS
    · intro K hK
      simp
      repeat' (first | with_reducible exact hK | (with_reducible refine goL_split (fun _ => ?_) (fun _ => ?_) <;> simp) | with_reducible refine And.intro ?_ ?_ | with_reducible exact okay_rfl rfl | with_reducible assumption | omega)
    exact ⟨a.length - (i + 1), by omega, i + 1, rfl, h, by simp [gc, closeN, liveA, gcV, gcO, renA, renAs, renO, namesAs, namesA, namesO, posn, bytesD_succ hx]; exact wrap_id (by omega) (by omega)⟩
  · simp at h
    rw [if_pos rfl]
    refine W_seq (?_)
    apply W_regS
    · intro K hK
      simp [List.take_of_length_le h]
      repeat' (first | with_reducible exact hK | (with_reducible refine goL_split (fun _ => ?_) (fun _ => ?_) <;> simp [List.take_of_length_le h]) | with_reducible refine And.intro ?_ ?_ | with_reducible exact okay_rfl rfl | with_reducible assumption | omega)
    refine W_ret ?_
    simp [Fin]
    all_goals omega
theorem l01Join_ok (a b : List UInt8) (ha : a.length + b.length ≤ 70368744177664) : Valid PP GG F_S_l01Join [.d (.slc 1 (bytesD a)), .d (.slc 1 (bytesD b))] (.own 0 1 (bytesD (a ++ b))) [none, none] := by
  refine v_S_l01Join [.own 0 1 (bytesD (a ++ b))] rfl rfl ?_
  have cb := l01Bytes_ok (GG := GG) a (by omega)
  have happ : ∀ x y : List UInt8, bytesD (x ++ y) = bytesD x ++ bytesD y := fun x y => by simp [bytesD]
  refine W_seq (?_)
  apply W_regS
  · intro K hK
    simp
    repeat' (first | with_reducible exact hK | (with_reducible refine goL_split (fun _ => ?_) (fun _ => ?_) <;> simp) | with_reducible refine And.intro ?_ ?_ | with_reducible exact okay_rfl rfl | with_reducible assumption | omega)
  refine W_seq (?_)
  apply W_regS
  · intro K hK
    simp
    repeat' (first | with_reducible exact hK | (with_reducible refine callQ (cb) ?_; simp) | (with_reducible refine goL_split (fun _ => ?_) (fun _ => ?_) <;> simp) | with_reducible refine And.intro ?_ ?_ | with_reducible exact okay_rfl rfl | with_reducible assumption | omega)
  refine W_seq (W_seq (?_))
  apply W_regS
  · intro K hK
    simp
    repeat' (first | with_reducible exact hK | (with_reducible refine goL_split (fun _ => ?_) (fun _ => ?_) <;> simp) | with_reducible refine And.intro ?_ ?_ | with_reducible exact okay_rfl rfl | with_reducible assumption | omega)
  refine W_block (W_loop (fun n st => ∃ i : Nat, n = b.length - i ∧ i ≤ b.length ∧
    st = ⟨[], [(1, .d (.slc 1 (bytesD b))), (5, .sl 0), (6, .d (.int .i64 i))], [(0, .arr 0 0 1 (bytesD (a ++ b.take i)))], 1⟩) _ ⟨0, rfl, by omega, by simp [gc, closeN, liveA, gcV, gcO, renA, renAs, renO, namesAs, namesA, namesO, posn]⟩ ?_)
  rintro n st ⟨i, rfl, hi, rfl⟩
  refine W_seq (W_seq (?_))
  apply W_regS
  · intro K hK
    simp
    repeat' (first | with_reducible exact hK | (with_reducible refine goL_split (fun _ => ?_) (fun _ => ?_) <;> simp) | with_reducible refine And.intro ?_ ?_ | with_reducible exact okay_rfl rfl | with_reducible assumption | omega)
  refine W_cond rfl (fun h => W_skip ?_) (fun h => W_exit ?_)
  · simp at h
    have hx := List.getElem?_eq_getElem h
    generalize b[i] = x at hx
    have hl : (a ++ b.take i).length ≤ a.length + b.length := by rw [List.length_append, List.length_take]; omega
    have hs := bytesD_succ hx
    obtain ⟨w, hw⟩ : ∃ w, a ++ b.take i = w := ⟨_, rfl⟩
    have hw2 : bytesD (a ++ b.take (i + 1)) = bytesD w ++ [[.int .u8 x.toNat]] := by rw [happ, hs, ← hw, happ, List.append_assoc]
    rw [hw] at hl ⊢
    refine W_seq (W_block ?_)
    apply W_regS
    · intro K hK
      simp [hx, limit]
      repeat' (first | with_reducible exact hK | (with_reducible refine goL_split (fun _ => ?_) (fun _ => ?_) <;> simp [hx, limit]) | with_reducible refine And.intro ?_ ?_ | with_reducible exact okay_rfl rfl | with_reducible assumption | omega)
    apply W_regS
    · intro K hK
      simp
      repeat' (first | with_reducible exact hK | (with_reducible refine goL_split (fun _ => ?_) (fun _ => ?_) <;> simp) | with_reducible refine And.intro ?_ ?_ | with_reducible exact okay_rfl rfl | with_reducible assumption | omega)
    exact ⟨b.length - (i + 1), by omega, i + 1, rfl, h, by simp [gc, closeN, liveA, gcV, gcO, renA, renAs, renO, namesAs, namesA, namesO, posn, hw2]; exact wrap_id (by omega) (by omega)⟩
  · simp at h
    rw [if_pos rfl]
    refine W_seq (?_)
    apply W_regS
    · intro K hK
      simp [List.take_of_length_le h]
      repeat' (first | with_reducible exact hK | (with_reducible refine goL_split (fun _ => ?_) (fun _ => ?_) <;> simp [List.take_of_length_le h]) | with_reducible refine And.intro ?_ ?_ | with_reducible exact okay_rfl rfl | with_reducible assumption | omega)
    refine W_ret ?_
    simp [Fin]
    all_goals omega
def wideB (x : Int) (i : Nat) : UInt8 := UInt8.ofNat ((x.toNat / 2 ^ (8 * i)) % 256)
def wide (x : Int) : List UInt8 := (List.range 8).map (wideB x)
theorem wide_len (x : Int) : (wide x).length = 8 := by simp [wide]
theorem wide_sh {x : Int} (hx : 0 ≤ x) {i q : Nat} (hi : i < 8) (hq : x.toNat / 2 ^ (8 * i) = q) : shBin .shr .i64 x (8 * (i : Int)) = some (.int .i64 (q : Int)) := by
  rw [shBin_shr _ _ _ (by omega)]
  have e1 : (8 * (i : Int)).toNat = 8 * i := by omega
  have e2 : min (8 * i) IntKind.i64.bits = 8 * i := by
    show min (8 * i) 64 = 8 * i
    omega
  have e4 : ((2 : Int) ^ (8 * i)) = ((2 ^ (8 * i) : Nat) : Int) := by simp
  obtain ⟨m, rfl⟩ : ∃ m : Nat, x = m := ⟨x.toNat, by omega⟩
  rw [e1, e2, e4, Int.fdiv_eq_ediv_of_nonneg _ (Int.natCast_nonneg _), ← hq]
  rfl
theorem wide_and (q : Nat) : intBin .and .i64 (q : Int) 255 = some (.int .i64 ((q % 256 : Nat) : Int)) := by
  have e : (BitVec.ofInt IntKind.i64.bits (q : Int) &&& BitVec.ofInt IntKind.i64.bits 255).toNat = q % 256 := by
    show (BitVec.ofInt 64 (q : Int) &&& 255#64).toNat = q % 256
    rw [BitVec.toNat_and, show (255#64).toNat = 2 ^ 8 - 1 from rfl, Nat.and_two_pow_sub_one_eq_mod, BitVec.ofInt_natCast, BitVec.toNat_ofNat]
    omega
  show some (D.int .i64 (IntKind.i64.wrap (((BitVec.ofInt IntKind.i64.bits (q : Int) &&& BitVec.ofInt IntKind.i64.bits 255).toNat : Nat) : Int))) = _
  rw [e, wrap_id (by omega) (by omega)]
theorem wide_u8 {x : Int} {i q : Nat} (hq : x.toNat / 2 ^ (8 * i) = q) : IntKind.u8.wrap (q : Int) = ((wideB x i).toNat : Int) := by
  unfold wideB
  rw [hq, IntKind.wrap_u8, UInt8.toNat_ofNat']; omega
theorem wide_u8' {x : Int} {i q : Nat} (hq : x.toNat / 2 ^ (8 * i) = q) : IntKind.u8.wrap ((q : Int) % 256) = ((wideB x i).toNat : Int) := by
  unfold wideB
  rw [hq, IntKind.wrap_u8, UInt8.toNat_ofNat']; omega
theorem wide_succ (x : Int) (i : Nat) : bytesD ((List.range (i + 1)).map (wideB x)) = bytesD ((List.range i).map (wideB x)) ++ [[.int .u8 (wideB x i).toNat]] := by
  simp [List.range_succ, bytesD]
theorem s_PutWide_ok (x : Int) (hk : keyB x = true) : Valid PP GG F_S_PutWide [.d (.int .i64 x)] (.own 0 1 (bytesD (wide x))) [none] := by
  refine v_S_PutWide [.own 0 1 (bytesD (wide x))] rfl rfl ?_
  have ck := l04Key_ok (GG := GG) x
  rw [hk] at ck
  have hx := inB_true hk
  refine W_seq (?_)
  apply W_regS
  · intro K hK
    simp
    repeat' (first | with_reducible exact hK | (with_reducible refine goL_split (fun _ => ?_) (fun _ => ?_) <;> simp) | with_reducible refine And.intro ?_ ?_ | with_reducible exact okay_rfl rfl | with_reducible assumption | omega)
  refine W_seq (?_)
  apply W_regS
  · intro K hK
    simp [litA]
    repeat' (first | with_reducible exact hK | (with_reducible refine goL_split (fun _ => ?_) (fun _ => ?_) <;> simp [litA]) | with_reducible refine And.intro ?_ ?_ | with_reducible exact okay_rfl rfl | with_reducible assumption | omega)
  refine W_seq (W_seq (?_))
  apply W_regS
  · intro K hK
    simp
    repeat' (first | with_reducible exact hK | (with_reducible refine callQ (ck) ?_; simp) | (with_reducible refine goL_split (fun _ => ?_) (fun _ => ?_) <;> simp) | with_reducible refine And.intro ?_ ?_ | with_reducible exact okay_rfl rfl | with_reducible assumption | omega)
  refine W_cond rfl (fun h => ?_) (fun h => W_skip ?_)
  · simp at h
  refine W_seq (W_seq (?_))
  apply W_regS
  · intro K hK
    simp
    repeat' (first | with_reducible exact hK | (with_reducible refine goL_split (fun _ => ?_) (fun _ => ?_) <;> simp) | with_reducible refine And.intro ?_ ?_ | with_reducible exact okay_rfl rfl | with_reducible assumption | omega)
  refine W_block (W_loop (fun n st => ∃ i : Nat, n = 8 - i ∧ i ≤ 8 ∧
    st = ⟨[], [(0, .d (.int .i64 x)), (3, .sl 0), (4, .d (.int .i64 i))], [(0, .arr 0 0 1 (bytesD ((List.range i).map (wideB x))))], 1⟩) _ ⟨0, rfl, by omega, rfl⟩ ?_)
  rintro n st ⟨i, rfl, hi, rfl⟩
  refine W_seq (W_seq (?_))
  apply W_regS
  · intro K hK
    simp
    repeat' (first | with_reducible exact hK | (with_reducible refine goL_split (fun _ => ?_) (fun _ => ?_) <;> simp) | with_reducible refine And.intro ?_ ?_ | with_reducible exact okay_rfl rfl | with_reducible assumption | omega)
  refine W_cond rfl (fun h => W_skip ?_) (fun h => W_exit ?_)
  · simp at h
    obtain ⟨q, hq⟩ : ∃ q : Nat, x.toNat / 2 ^ (8 * i) = q := ⟨_, rfl⟩
    have f1 := wide_sh hx.1 (by omega) hq
    have f2 := wide_and q
    have f3 := wide_u8' hq
    have f4 : IntKind.i64.wrap (8 * (i : Int)) = 8 * i := wrap_id (by omega) (by omega)
    have f5 : IntKind.u64.wrap (8 * (i : Int)) = 8 * i := by rw [IntKind.wrap_u64]; omega
    have hs := wide_succ x i
    have hl : ((List.range i).map (wideB x)).length = i := by simp
    generalize (List.range i).map (wideB x) = w at hs hl ⊢
    generalize wideB x i = b at f3 hs
    refine W_seq (W_block ?_)
    apply W_regS
    · intro K hK
      simp [f4, f5, f1, f2, f3, limit]
      repeat' (first | with_reducible exact hK | (with_reducible refine goL_split (fun _ => ?_) (fun _ => ?_) <;> simp [f4, f5, f1, f2, f3, limit]) | with_reducible refine And.intro ?_ ?_ | with_reducible exact okay_rfl rfl | with_reducible assumption | omega)
    apply W_regS
    · intro K hK
      simp
      repeat' (first | with_reducible exact hK | (with_reducible refine goL_split (fun _ => ?_) (fun _ => ?_) <;> simp) | with_reducible refine And.intro ?_ ?_ | with_reducible exact okay_rfl rfl | with_reducible assumption | omega)
    exact ⟨8 - (i + 1), by omega, i + 1, rfl, by omega, by rw [hs]; simp [gc, closeN, liveA, gcV, gcO, renA, renAs, renO, namesAs, namesA, namesO, posn]; exact wrap_id (by omega) (by omega)⟩
  · simp at h
    have hi8 : i = 8 := by omega
    subst hi8
    rw [if_pos rfl]
    refine W_seq (?_)
    apply W_regS
    · intro K hK
      simp
      repeat' (first | with_reducible exact hK | (with_reducible refine goL_split (fun _ => ?_) (fun _ => ?_) <;> simp) | with_reducible refine And.intro ?_ ?_ | with_reducible exact okay_rfl rfl | with_reducible assumption | omega)
    refine W_ret ?_
    simp [Fin, wide]
    all_goals omega
theorem i_putWide_ok (x : Int) (hk : keyB x = true) : Valid PP GG F_I_putWide [.d (.int .i64 x)] (.own 0 1 (bytesD (wide x))) [none] := by
  refine v_I_putWide [.own 0 1 (bytesD (wide x))] rfl rfl ?_
  have hx := inB_true hk
  refine W_seq (?_)
  apply W_regS
  · intro K hK
    simp
    repeat' (first | with_reducible exact hK | (with_reducible refine goL_split (fun _ => ?_) (fun _ => ?_) <;> simp) | with_reducible refine And.intro ?_ ?_ | with_reducible exact okay_rfl rfl | with_reducible assumption | omega)
  refine W_seq (?_)
  apply W_regS
  · intro K hK
    simp [mkA, limit]
    repeat' (first | with_reducible exact hK | (with_reducible refine goL_split (fun _ => ?_) (fun _ => ?_) <;> simp [mkA, limit]) | with_reducible refine And.intro ?_ ?_ | with_reducible exact okay_rfl rfl | with_reducible assumption | omega)
  refine W_seq (W_seq (?_))
  apply W_regS
  · intro K hK
    simp
    repeat' (first | with_reducible exact hK | (with_reducible refine goL_split (fun _ => ?_) (fun _ => ?_) <;> simp) | with_reducible refine And.intro ?_ ?_ | with_reducible exact okay_rfl rfl | with_reducible assumption | omega)
  refine W_block (W_loop (fun n st => ∃ (i : Nat) (R : List (List D)), n = 8 - i ∧ i ≤ 8 ∧ R.length = 8 ∧ (∀ r, r ∈ R → r.length = 1) ∧ R.take i = bytesD ((List.range i).map (wideB x)) ∧
    st = ⟨[], [(0, .d (.int .i64 x)), (3, .sl 0), (7, .d (.int .i64 8)), (8, .d (.int .i64 i))], [(0, .arr 0 0 1 R)], 1⟩) _ ⟨0, List.replicate 8 [.int .u8 0], rfl, by omega, by simp, by simp, rfl, rfl⟩ ?_)
  rintro n st ⟨i, R, rfl, hi, hl, h1, hR, rfl⟩
  refine W_seq (?_)
  apply W_regS
  · intro K hK
    simp
    repeat' (first | with_reducible exact hK | (with_reducible refine goL_split (fun _ => ?_) (fun _ => ?_) <;> simp) | with_reducible refine And.intro ?_ ?_ | with_reducible exact okay_rfl rfl | with_reducible assumption | omega)
  refine W_seq (?_)
  refine W_cond rfl (fun h => W_skip ?_) (fun h => W_exit ?_)
  · simp at h
    obtain ⟨d, hd⟩ := row_one h1 (show i < R.length by omega)
    obtain ⟨q, hq⟩ : ∃ q : Nat, x.toNat / 2 ^ (8 * i) = q := ⟨_, rfl⟩
    have f1 := wide_sh hx.1 (by omega) hq
    have f3 := wide_u8 hq
    have f4 : IntKind.i64.wrap (8 * (i : Int)) = 8 * i := wrap_id (by omega) (by omega)
    have hs := wide_succ x i
    generalize wideB x i = b at f3 hs
    refine W_seq (W_block (W_seq ?_))
    apply W_regS
    · intro K hK
      simp
      repeat' (first | with_reducible exact hK | (with_reducible refine goL_split (fun _ => ?_) (fun _ => ?_) <;> simp) | with_reducible refine And.intro ?_ ?_ | with_reducible exact okay_rfl rfl | with_reducible assumption | omega)
    apply W_regS
    · intro K hK
      simp [f4, f1, f3, hd, hl]
      repeat' (first | with_reducible exact hK | (with_reducible refine goL_split (fun _ => ?_) (fun _ => ?_) <;> simp [f4, f1, f3, hd, hl]) | with_reducible refine And.intro ?_ ?_ | with_reducible exact okay_rfl rfl | with_reducible assumption | omega)
    apply W_regS
    · intro K hK
      simp
      repeat' (first | with_reducible exact hK | (with_reducible refine goL_split (fun _ => ?_) (fun _ => ?_) <;> simp) | with_reducible refine And.intro ?_ ?_ | with_reducible exact okay_rfl rfl | with_reducible assumption | omega)
    exact ⟨8 - (i + 1), by omega, i + 1, R.set i [.int .u8 b.toNat], rfl, by omega, by simpa using hl, set_one h1, by rw [take_set_succ (by omega), hR, hs], by simp [gc, closeN, liveA, gcV, gcO, renA, renAs, renO, namesAs, namesA, namesO, posn]; exact wrap_id (by omega) (by omega)⟩
  · simp at h
    have hi8 : i = 8 := by omega
    subst hi8
    have eR : R = bytesD (wide x) := by rwa [List.take_of_length_le (by omega)] at hR
    subst eR
    rw [if_pos rfl]
    refine W_seq (?_)
    apply W_regS
    · intro K hK
      simp
      repeat' (first | with_reducible exact hK | (with_reducible refine goL_split (fun _ => ?_) (fun _ => ?_) <;> simp) | with_reducible refine And.intro ?_ ?_ | with_reducible exact okay_rfl rfl | with_reducible assumption | omega)
    refine W_ret ?_
    simp [Fin]
    all_goals omega
def sNext (k h : Int) : Int := (48271 * h + k % 65521 + 1) % 2147483629
def sIter (k h : Int) : Nat → Int
  | 0 => h
  | i + 1 => sNext k (sIter k h i)
def sByte (k h : Int) (i : Nat) : UInt8 := UInt8.ofNat ((sIter k h (i + 1) / 1024) % 256).toNat
def sInit (k n : Int) : Int := (k % 2147483629 + 2 * (n % 2147483629) + 1) % 2147483629
def strm (k n : Int) (len : Nat) : List UInt8 := (List.range len).map (sByte k (sInit k n))
theorem strm_len (k n : Int) (len : Nat) : (strm k n len).length = len := by simp [strm]
theorem sIter_range (k h : Int) (hh : 0 ≤ h ∧ h < 2147483629) (i : Nat) : 0 ≤ sIter k h i ∧ sIter k h i < 2147483629 := by
  cases i with
  | zero => exact hh
  | succ i => simp only [sIter, sNext]; omega
theorem sInit_range (k n : Int) : 0 ≤ sInit k n ∧ sInit k n < 2147483629 := by unfold sInit; omega
theorem sBytes_succ (k h : Int) (i : Nat) : bytesD ((List.range (i + 1)).map (sByte k h)) = bytesD ((List.range i).map (sByte k h)) ++ [[.int .u8 (sByte k h i).toNat]] := by
  simp [List.range_succ, bytesD]
theorem tmod_pos {a b : Int} (ha : 0 ≤ a) : a.tmod b = a % b := Int.tmod_eq_emod_of_nonneg ha
theorem tdiv_pos {a b : Int} (ha : 0 ≤ a) : a.tdiv b = a / b := Int.tdiv_eq_ediv_of_nonneg ha
theorem s_step {k h r h' : Int} (hk : 0 ≤ k) (hh : 0 ≤ h ∧ h < 2147483629) (hr : k % 65521 = r) (hn : sNext k h = h') :
    IntKind.i64.wrap (48271 * h) = 48271 * h ∧ k.tmod 65521 = r ∧ IntKind.i64.wrap (48271 * h + r) = 48271 * h + r ∧ IntKind.i64.wrap (48271 * h + r + 1) = 48271 * h + r + 1 ∧ (48271 * h + r + 1).tmod 2147483629 = h' := by
  have h1 : 0 ≤ r ∧ r < 65521 := by omega
  refine ⟨wrap_id (by omega) (by omega), by rw [tmod_pos hk, hr], wrap_id (by omega) (by omega), wrap_id (by omega) (by omega), ?_⟩
  rw [tmod_pos (by omega), ← hn, ← hr]; rfl
theorem s_byte {k h h' : Int} {i : Nat} (hh : 0 ≤ h' ∧ h' < 2147483629) (hi : sIter k h (i + 1) = h') {q : Int} (hq : h' / 1024 = q) :
    h'.tdiv 1024 = q ∧ IntKind.i64.wrap q = q ∧ q.tmod 256 = q % 256 ∧ IntKind.u8.wrap (q % 256) = ((sByte k h i).toNat : Int) ∧ IntKind.u8.wrap q = ((sByte k h i).toNat : Int) := by
  have h0 : 0 ≤ q ∧ q < 2147483629 := by omega
  have hb : ((sByte k h i).toNat : Int) = q % 256 := by
    unfold sByte
    rw [hi, hq, UInt8.toNat_ofNat']; omega
  refine ⟨by rw [tdiv_pos hh.1, hq], wrap_id (by omega) (by omega), tmod_pos h0.1, ?_, ?_⟩
  · rw [hb, IntKind.wrap_u8]; omega
  · rw [hb, IntKind.wrap_u8]
theorem s_init {k n a b : Int} (hk : 0 ≤ k) (hn : 0 ≤ n) (ha : k % 2147483629 = a) (hb : n % 2147483629 = b) :
    k.tmod 2147483629 = a ∧ n.tmod 2147483629 = b ∧ IntKind.i64.wrap (2 * b) = 2 * b ∧ IntKind.i64.wrap (a + 2 * b) = a + 2 * b ∧ IntKind.i64.wrap (a + 2 * b + 1) = a + 2 * b + 1 ∧ (a + 2 * b + 1).tmod 2147483629 = sInit k n := by
  refine ⟨by rw [tmod_pos hk, ha], by rw [tmod_pos hn, hb], wrap_id (by omega) (by omega), wrap_id (by omega) (by omega), wrap_id (by omega) (by omega), ?_⟩
  rw [tmod_pos (by omega), ← ha, ← hb]; rfl
theorem s_Stream_ok (k n : Int) (len : Nat) (hk : keyB k = true) (hn : keyB n = true) (hl : len ≤ 2000) : Valid PP GG F_S_Stream [.d (.int .i64 k), .d (.int .i64 n), .d (.int .i64 len)] (.own 0 1 (bytesD (strm k n len))) [none, none, none] := by
  refine v_S_Stream [.own 0 1 (bytesD (strm k n len))] rfl rfl ?_
  have ck := l04Key_ok (GG := GG) k
  have cn := l04Key_ok (GG := GG) n
  rw [hk] at ck
  rw [hn] at cn
  have cl : Valid PP GG F_S_l01In [.d (.int .i64 len), .d (.int .i64 0), .d (.int .i64 2000)] (.d (.bool true)) [none, none, none] := by
    have := l01In_ok (GG := GG) len 0 2000
    rwa [show (decide (0 ≤ (len : Int)) && decide ((len : Int) ≤ 2000)) = true by simp; omega] at this
  have kr := inB_true hk
  have nr := inB_true hn
  obtain ⟨a, ha⟩ : ∃ a, k % 2147483629 = a := ⟨_, rfl⟩
  obtain ⟨b, hb⟩ : ∃ b, n % 2147483629 = b := ⟨_, rfl⟩
  obtain ⟨i1, i2, i3, i4, i5, i6⟩ := s_init kr.1 nr.1 ha hb
  obtain ⟨r, hr⟩ : ∃ r, k % 65521 = r := ⟨_, rfl⟩
  have h0 := sInit_range k n
  have hstrm : strm k n len = (List.range len).map (sByte k (sInit k n)) := rfl
  generalize sInit k n = g at i6 h0 hstrm
  refine W_seq (?_)
  apply W_regS
  · intro K hK
    simp
    repeat' (first | with_reducible exact hK | (with_reducible refine goL_split (fun _ => ?_) (fun _ => ?_) <;> simp) | with_reducible refine And.intro ?_ ?_ | with_reducible exact okay_rfl rfl | with_reducible assumption | omega)
  refine W_seq (?_)
  apply W_regS
  · intro K hK
    simp [litA]
    repeat' (first | with_reducible exact hK | (with_reducible refine goL_split (fun _ => ?_) (fun _ => ?_) <;> simp [litA]) | with_reducible refine And.intro ?_ ?_ | with_reducible exact okay_rfl rfl | with_reducible assumption | omega)
  refine W_seq (W_seq (?_))
  refine W_regB 24 (false) (fun K hK => ?_) ?_
  · simp
    repeat' (first | exact hK _ _ (by clear hK; first | omega | (exact decide_eq_false (by omega)) | (exact decide_eq_true (by omega)) | (exact (decide_eq_true (by omega)).symm) | (exact (decide_eq_false (by omega)).symm) | (exact decide_eq_decide.2 (by omega)) | (simp only [← decide_not]; exact decide_eq_decide.2 (by omega)) | (simp [*]; done) | (simp [*]; omega) | (simp_all; done) | (simp_all; omega) | (rw [Bool.eq_iff_iff]; simp at *; omega)) | (with_reducible refine callQ (ck) ?_; simp) | (with_reducible refine callQ (cn) ?_; simp) | (with_reducible refine callQ (cl) ?_; simp) | (with_reducible refine goL_split (fun _ => ?_) (fun _ => ?_) <;> simp) | with_reducible refine And.intro ?_ ?_ | with_reducible exact okay_rfl rfl | with_reducible assumption | omega)
  refine W_cond rfl (fun h => ?_) (fun h => W_skip ?_)
  · cases h
  refine W_seq (?_)
  apply W_regS
  · intro K hK
    simp
    repeat' (first | with_reducible exact hK | (with_reducible refine goL_split (fun _ => ?_) (fun _ => ?_) <;> simp) | with_reducible refine And.intro ?_ ?_ | with_reducible exact okay_rfl rfl | with_reducible assumption | omega)
  refine W_seq (?_)
  apply W_regD
  · intro K hK
    simp [i1, i2, i3, i4, i5, i6]
    repeat' (first | with_reducible exact hK | (with_reducible refine goL_split (fun _ => ?_) (fun _ => ?_) <;> simp [i1, i2, i3, i4, i5, i6]) | with_reducible refine And.intro ?_ ?_ | with_reducible exact okay_rfl rfl | with_reducible assumption | omega)
  refine W_seq (W_seq (?_))
  apply W_regS
  · intro K hK
    simp
    repeat' (first | with_reducible exact hK | (with_reducible refine goL_split (fun _ => ?_) (fun _ => ?_) <;> simp) | with_reducible refine And.intro ?_ ?_ | with_reducible exact okay_rfl rfl | with_reducible assumption | omega)
  refine W_block (W_loop (fun n st => ∃ i : Nat, n = len - i ∧ i ≤ len ∧
    st = ⟨[], [(0, .d (.int .i64 k)), (2, .d (.int .i64 len)), (7, .sl 0), (8, .d (.int .i64 2147483629)), (9, .d (.int .i64 (sIter k g i))), (10, .d (.int .i64 i))], [(0, .arr 0 0 1 (bytesD ((List.range i).map (sByte k g))))], 1⟩) _ ⟨0, rfl, by omega, rfl⟩ ?_)
  rintro n st ⟨i, rfl, hi, rfl⟩
  refine W_seq (W_seq (?_))
  apply W_regS
  · intro K hK
    simp
    repeat' (first | with_reducible exact hK | (with_reducible refine goL_split (fun _ => ?_) (fun _ => ?_) <;> simp) | with_reducible refine And.intro ?_ ?_ | with_reducible exact okay_rfl rfl | with_reducible assumption | omega)
  refine W_cond rfl (fun h2 => W_skip ?_) (fun h2 => W_exit ?_)
  · rw [h2]
    simp at h2
    have hr1 := sIter_range k g h0 i
    have hr2 := sIter_range k g h0 (i + 1)
    have hnx : sNext k (sIter k g i) = sIter k g (i + 1) := rfl
    have hs := sBytes_succ k g i
    have hlen : ((List.range i).map (sByte k g)).length = i := by simp
    obtain ⟨q, hq⟩ : ∃ q, sIter k g (i + 1) / 1024 = q := ⟨_, rfl⟩
    obtain ⟨b1, b2, b3, b4, b5⟩ := s_byte (h := g) (i := i) hr2 rfl hq
    obtain ⟨h', hh'⟩ : ∃ h', sIter k g (i + 1) = h' := ⟨_, rfl⟩
    rw [hh'] at hr2 hnx hq b1
    generalize sIter k g i = hc at hr1 hnx ⊢
    obtain ⟨f1, f2, f3, f4, f5⟩ := s_step kr.1 hr1 hr hnx
    generalize (List.range i).map (sByte k g) = w at hs hlen ⊢
    generalize sByte k g i = bt at b4 b5 hs
    refine W_seq (W_block (W_seq ?_))
    apply W_regS
    · intro K hK
      simp [f1, f2, f3, f4, f5]
      repeat' (first | with_reducible exact hK | (with_reducible refine goL_split (fun _ => ?_) (fun _ => ?_) <;> simp [f1, f2, f3, f4, f5]) | with_reducible refine And.intro ?_ ?_ | with_reducible exact okay_rfl rfl | with_reducible assumption | omega)
    apply W_regS
    · intro K hK
      simp [b1, b2, b3, b4, limit]
      repeat' (first | with_reducible exact hK | (with_reducible refine goL_split (fun _ => ?_) (fun _ => ?_) <;> simp [b1, b2, b3, b4, limit]) | with_reducible refine And.intro ?_ ?_ | with_reducible exact okay_rfl rfl | with_reducible assumption | omega)
    apply W_regS
    · intro K hK
      simp
      repeat' (first | with_reducible exact hK | (with_reducible refine goL_split (fun _ => ?_) (fun _ => ?_) <;> simp) | with_reducible refine And.intro ?_ ?_ | with_reducible exact okay_rfl rfl | with_reducible assumption | omega)
    refine ⟨len - (i + 1), by omega, i + 1, rfl, by omega, ?_⟩
    rw [hs]
    simp [gc, closeN, liveA, gcV, gcO, renA, renAs, renO, namesAs, namesA, namesO, posn]
    exact ⟨hh'.symm, wrap_id (by omega) (by omega)⟩
  · simp at h2
    have e : i = len := by omega
    subst e
    rw [if_pos rfl, hstrm]
    refine W_seq (?_)
    apply W_regS
    · intro K hK
      simp
      repeat' (first | with_reducible exact hK | (with_reducible refine goL_split (fun _ => ?_) (fun _ => ?_) <;> simp) | with_reducible refine And.intro ?_ ?_ | with_reducible exact okay_rfl rfl | with_reducible assumption | omega)
    refine W_ret ?_
    simp [Fin]
    all_goals omega
theorem i_stream_ok (k n : Int) (len : Nat) (hk : keyB k = true) (hn : keyB n = true) (hl : len ≤ 1048576) : Valid PP GG F_I_stream [.d (.int .i64 k), .d (.int .i64 n), .d (.int .i64 len)] (.own 0 1 (bytesD (strm k n len))) [none, none, none] := by
  refine v_I_stream [.own 0 1 (bytesD (strm k n len))] rfl rfl ?_
  have kr := inB_true hk
  have nr := inB_true hn
  obtain ⟨a, ha⟩ : ∃ a, k % 2147483629 = a := ⟨_, rfl⟩
  obtain ⟨b, hb⟩ : ∃ b, n % 2147483629 = b := ⟨_, rfl⟩
  obtain ⟨i1, i2, i3, i4, i5, i6⟩ := s_init kr.1 nr.1 ha hb
  obtain ⟨r, hr⟩ : ∃ r, k % 65521 = r := ⟨_, rfl⟩
  have h0 := sInit_range k n
  have hstrm : strm k n len = (List.range len).map (sByte k (sInit k n)) := rfl
  generalize sInit k n = g at i6 h0 hstrm
  refine W_seq (?_)
  apply W_regS
  · intro K hK
    simp
    repeat' (first | with_reducible exact hK | (with_reducible refine goL_split (fun _ => ?_) (fun _ => ?_) <;> simp) | with_reducible refine And.intro ?_ ?_ | with_reducible exact okay_rfl rfl | with_reducible assumption | omega)
  refine W_seq (?_)
  apply W_regS
  · intro K hK
    simp [mkA, limit]
    repeat' (first | with_reducible exact hK | (with_reducible refine goL_split (fun _ => ?_) (fun _ => ?_) <;> simp [mkA, limit]) | with_reducible refine And.intro ?_ ?_ | with_reducible exact okay_rfl rfl | with_reducible assumption | omega)
  refine W_seq (?_)
  apply W_regS
  · intro K hK
    simp [i1, i2, i3, i4, i5, i6]
    repeat' (first | with_reducible exact hK | (with_reducible refine goL_split (fun _ => ?_) (fun _ => ?_) <;> simp [i1, i2, i3, i4, i5, i6]) | with_reducible refine And.intro ?_ ?_ | with_reducible exact okay_rfl rfl | with_reducible assumption | omega)
  refine W_seq (W_seq (?_))
  apply W_regS
  · intro K hK
    simp
    repeat' (first | with_reducible exact hK | (with_reducible refine goL_split (fun _ => ?_) (fun _ => ?_) <;> simp) | with_reducible refine And.intro ?_ ?_ | with_reducible exact okay_rfl rfl | with_reducible assumption | omega)
  refine W_block (W_loop (fun n st => ∃ (i : Nat) (R : List (List D)), n = len - i ∧ i ≤ len ∧ R.length = len ∧ (∀ r, r ∈ R → r.length = 1) ∧ R.take i = bytesD ((List.range i).map (sByte k g)) ∧
    st = ⟨[], [(0, .d (.int .i64 k)), (7, .sl 0), (8, .d (.int .i64 (sIter k g i))), (21, .d (.int .i64 len)), (22, .d (.int .i64 i))], [(0, .arr 0 0 1 R)], 1⟩) _ ⟨0, List.replicate len [.int .u8 0], rfl, by omega, by simp, by simp, rfl, by simp [gc, closeN, liveA, gcV, gcO, renA, renAs, renO, namesAs, namesA, namesO, posn, sIter]⟩ ?_)
  rintro n st ⟨i, R, rfl, hi, hRl, h1, hR, rfl⟩
  refine W_seq (?_)
  apply W_regS
  · intro K hK
    simp
    repeat' (first | with_reducible exact hK | (with_reducible refine goL_split (fun _ => ?_) (fun _ => ?_) <;> simp) | with_reducible refine And.intro ?_ ?_ | with_reducible exact okay_rfl rfl | with_reducible assumption | omega)
  refine W_seq (?_)
  refine W_cond rfl (fun h2 => W_skip ?_) (fun h2 => W_exit ?_)
  · rw [h2]
    simp at h2
    have hr1 := sIter_range k g h0 i
    have hr2 := sIter_range k g h0 (i + 1)
    have hnx : sNext k (sIter k g i) = sIter k g (i + 1) := rfl
    have hs := sBytes_succ k g i
    obtain ⟨d, hd⟩ := row_one h1 (show i < R.length by omega)
    obtain ⟨q, hq⟩ : ∃ q, sIter k g (i + 1) / 1024 = q := ⟨_, rfl⟩
    obtain ⟨b1, b2, b3, b4, b5⟩ := s_byte (h := g) (i := i) hr2 rfl hq
    obtain ⟨h', hh'⟩ : ∃ h', sIter k g (i + 1) = h' := ⟨_, rfl⟩
    rw [hh'] at hr2 hnx hq b1
    generalize sIter k g i = hc at hr1 hnx ⊢
    obtain ⟨f1, f2, f3, f4, f5⟩ := s_step kr.1 hr1 hr hnx
    generalize sByte k g i = bt at b4 b5 hs
    refine W_seq (W_block (W_seq ?_))
    apply W_regS
    · intro K hK
      simp
      repeat' (first | with_reducible exact hK | (with_reducible refine goL_split (fun _ => ?_) (fun _ => ?_) <;> simp) | with_reducible refine And.intro ?_ ?_ | with_reducible exact okay_rfl rfl | with_reducible assumption | omega)
    refine W_seq (?_)
    apply W_regS
    · intro K hK
      simp [f1, f2, f3, f4, f5]
      repeat' (first | with_reducible exact hK | (with_reducible refine goL_split (fun _ => ?_) (fun _ => ?_) <;> simp [f1, f2, f3, f4, f5]) | with_reducible refine And.intro ?_ ?_ | with_reducible exact okay_rfl rfl | with_reducible assumption | omega)
    apply W_regS
    · intro K hK
      simp [b1, b2, b5, hd, hRl]
      repeat' (first | with_reducible exact hK | (with_reducible refine goL_split (fun _ => ?_) (fun _ => ?_) <;> simp [b1, b2, b5, hd, hRl]) | with_reducible refine And.intro ?_ ?_ | with_reducible exact okay_rfl rfl | with_reducible assumption | omega)
    apply W_regS
    · intro K hK
      simp
      repeat' (first | with_reducible exact hK | (with_reducible refine goL_split (fun _ => ?_) (fun _ => ?_) <;> simp) | with_reducible refine And.intro ?_ ?_ | with_reducible exact okay_rfl rfl | with_reducible assumption | omega)
    refine ⟨len - (i + 1), by omega, i + 1, R.set i [.int .u8 bt.toNat], rfl, by omega, by simpa using hRl, set_one h1, by rw [take_set_succ (by omega), hR, hs], ?_⟩
    simp [gc, closeN, liveA, gcV, gcO, renA, renAs, renO, namesAs, namesA, namesO, posn]
    exact ⟨hh'.symm, wrap_id (by omega) (by omega)⟩
  · simp at h2
    have e : i = len := by omega
    subst e
    have eR : R = bytesD ((List.range i).map (sByte k g)) := by rwa [List.take_of_length_le (by omega)] at hR
    subst eR
    rw [if_pos rfl, hstrm]
    refine W_seq (?_)
    apply W_regS
    · intro K hK
      simp
      repeat' (first | with_reducible exact hK | (with_reducible refine goL_split (fun _ => ?_) (fun _ => ?_) <;> simp) | with_reducible refine And.intro ?_ ?_ | with_reducible exact okay_rfl rfl | with_reducible assumption | omega)
    refine W_ret ?_
    simp [Fin]
    all_goals omega
def mask (k n : Int) (a : List UInt8) : List UInt8 := List.zipWith (· ^^^ ·) a (strm k n a.length)
theorem mask_len (k n : Int) (a : List UInt8) : (mask k n a).length = a.length := by simp [mask, strm_len]
theorem mask_get {k n : Int} {a : List UInt8} {i : Nat} {x y : UInt8} (hx : a[i]? = some x) (hy : (strm k n a.length)[i]? = some y) : (mask k n a)[i]? = some (x ^^^ y) := by
  simp [mask, List.getElem?_zipWith, hx, hy]
theorem u8_xor (x y : UInt8) : intBin .xor .u8 (x.toNat : Int) (y.toNat : Int) = some (.int .u8 (((x ^^^ y).toNat : Nat) : Int)) := by
  have e : (BitVec.ofInt IntKind.u8.bits (x.toNat : Int) ^^^ BitVec.ofInt IntKind.u8.bits (y.toNat : Int)).toNat = (x ^^^ y).toNat := by
    show (BitVec.ofInt 8 (x.toNat : Int) ^^^ BitVec.ofInt 8 (y.toNat : Int)).toNat = (x ^^^ y).toNat
    rw [BitVec.toNat_xor, BitVec.ofInt_natCast, BitVec.ofInt_natCast, BitVec.toNat_ofNat, BitVec.toNat_ofNat, UInt8.toNat_xor]
    have hx := x.toNat_lt
    have hy := y.toNat_lt
    rw [Nat.mod_eq_of_lt hx, Nat.mod_eq_of_lt hy]
  show some (D.int .u8 (IntKind.u8.wrap (((BitVec.ofInt IntKind.u8.bits (x.toNat : Int) ^^^ BitVec.ofInt IntKind.u8.bits (y.toNat : Int)).toNat : Nat) : Int))) = _
  have := (x ^^^ y).toNat_lt
  rw [e, IntKind.wrap_u8]
  congr 2
  omega
theorem l04Mask_ok (k n : Int) (a : List UInt8) (hk : keyB k = true) (hn : keyB n = true) (hl : a.length ≤ 2000) : Valid PP GG F_S_l04Mask [.d (.int .i64 k), .d (.int .i64 n), .d (.slc 1 (bytesD a))] (.own 0 1 (bytesD (mask k n a))) [none, none, none] := by
  refine v_S_l04Mask [.own 0 1 (bytesD (mask k n a))] rfl rfl ?_
  have cs := s_Stream_ok (GG := GG) k n a.length hk hn hl
  have hsl := strm_len k n a.length
  have hmg : ∀ (i : Nat) x y, a[i]? = some x → (strm k n a.length)[i]? = some y → (mask k n a)[i]? = some (x ^^^ y) := fun i x y hx hy => mask_get hx hy
  have hml := mask_len k n a
  generalize strm k n a.length = s at cs hsl hmg
  generalize mask k n a = m at hmg hml ⊢
  refine W_seq (?_)
  apply W_regS
  · intro K hK
    simp
    repeat' (first | with_reducible exact hK | (with_reducible refine goL_split (fun _ => ?_) (fun _ => ?_) <;> simp) | with_reducible refine And.intro ?_ ?_ | with_reducible exact okay_rfl rfl | with_reducible assumption | omega)
  refine W_seq (?_)
  apply W_regS
  · intro K hK
    simp [litA]
    repeat' (first | with_reducible exact hK | (with_reducible refine goL_split (fun _ => ?_) (fun _ => ?_) <;> simp [litA]) | with_reducible refine And.intro ?_ ?_ | with_reducible exact okay_rfl rfl | with_reducible assumption | omega)
  refine W_seq (?_)
  apply W_regS
  · intro K hK
    simp
    repeat' (first | with_reducible exact hK | (with_reducible refine callQ (cs) ?_; simp) | (with_reducible refine goL_split (fun _ => ?_) (fun _ => ?_) <;> simp) | with_reducible refine And.intro ?_ ?_ | with_reducible exact okay_rfl rfl | with_reducible assumption | omega)
  refine W_seq (W_seq (?_))
  apply W_regS
  · intro K hK
    simp
    repeat' (first | with_reducible exact hK | (with_reducible refine goL_split (fun _ => ?_) (fun _ => ?_) <;> simp) | with_reducible refine And.intro ?_ ?_ | with_reducible exact okay_rfl rfl | with_reducible assumption | omega)
  refine W_block (W_loop (fun n st => ∃ i : Nat, n = a.length - i ∧ i ≤ a.length ∧
    st = ⟨[], [(2, .d (.slc 1 (bytesD a))), (7, .sl 0), (8, .sl 1), (9, .d (.int .i64 i))], [(0, .arr 0 0 1 (bytesD (m.take i))), (1, .arr 0 0 1 (bytesD s))], 2⟩) _ ⟨0, rfl, by omega, rfl⟩ ?_)
  rintro n st ⟨i, rfl, hi, rfl⟩
  refine W_seq (W_seq (?_))
  apply W_regS
  · intro K hK
    simp
    repeat' (first | with_reducible exact hK | (with_reducible refine goL_split (fun _ => ?_) (fun _ => ?_) <;> simp) | with_reducible refine And.intro ?_ ?_ | with_reducible exact okay_rfl rfl | with_reducible assumption | omega)
  refine W_cond rfl (fun h2 => W_skip ?_) (fun h2 => W_exit ?_)
  · simp at h2
    have ha := List.getElem?_eq_getElem h2
    have hb := List.getElem?_eq_getElem (show i < s.length by omega)
    generalize a[i] = x at ha
    generalize s[i]'_ = y at hb
    have hxy := u8_xor x y
    have hs := bytesD_succ (hmg i x y ha hb)
    have hlen : (m.take i).length ≤ 2000 := by rw [List.length_take]; omega
    have his : i < s.length := by omega
    refine W_seq (W_block ?_)
    apply W_regD
    · intro K hK
      simp [ha, hb, hxy, limit]
      repeat' (first | with_reducible exact hK | (with_reducible refine goL_split (fun _ => ?_) (fun _ => ?_) <;> simp [ha, hb, hxy, limit]) | with_reducible refine And.intro ?_ ?_ | with_reducible exact okay_rfl rfl | with_reducible assumption | omega)
    apply W_regS
    · intro K hK
      simp
      repeat' (first | with_reducible exact hK | (with_reducible refine goL_split (fun _ => ?_) (fun _ => ?_) <;> simp) | with_reducible refine And.intro ?_ ?_ | with_reducible exact okay_rfl rfl | with_reducible assumption | omega)
    refine ⟨a.length - (i + 1), by omega, i + 1, rfl, h2, ?_⟩
    rw [hs]
    simp [gc, closeN, liveA, gcV, gcO, renA, renAs, renO, namesAs, namesA, namesO, posn]
    exact wrap_id (by omega) (by omega)
  · simp at h2
    rw [if_pos rfl]
    have e : m.take i = m := List.take_of_length_le (by omega)
    rw [e]
    refine W_seq (?_)
    apply W_regS
    · intro K hK
      simp
      repeat' (first | with_reducible exact hK | (with_reducible refine goL_split (fun _ => ?_) (fun _ => ?_) <;> simp) | with_reducible refine And.intro ?_ ?_ | with_reducible exact okay_rfl rfl | with_reducible assumption | omega)
    refine W_ret ?_
    simp [Fin]
    all_goals omega
theorem crossed_ok (k n : Int) (a : List UInt8) (hk : keyB k = true) (hn : keyB n = true) (hl : a.length ≤ 1048576) : Valid PP GG F_I_crossed [.d (.int .i64 k), .d (.int .i64 n), .d (.slc 1 (bytesD a))] (.own 0 1 (bytesD (mask k n a))) [none, none, none] := by
  refine v_I_crossed [.own 0 1 (bytesD (mask k n a))] rfl rfl ?_
  have cs := i_stream_ok (GG := GG) k n a.length hk hn hl
  have hsl := strm_len k n a.length
  have hmg : ∀ (i : Nat) x y, a[i]? = some x → (strm k n a.length)[i]? = some y → (mask k n a)[i]? = some (x ^^^ y) := fun i x y hx hy => mask_get hx hy
  have hml := mask_len k n a
  generalize strm k n a.length = s at cs hsl hmg
  generalize mask k n a = m at hmg hml ⊢
  refine W_seq (?_)
  apply W_regS
  · intro K hK
    simp
    repeat' (first | with_reducible exact hK | (with_reducible refine goL_split (fun _ => ?_) (fun _ => ?_) <;> simp) | with_reducible refine And.intro ?_ ?_ | with_reducible exact okay_rfl rfl | with_reducible assumption | omega)
  refine W_seq (?_)
  apply W_regS
  · intro K hK
    simp
    repeat' (first | with_reducible exact hK | (with_reducible refine callQ (cs) ?_; simp) | (with_reducible refine goL_split (fun _ => ?_) (fun _ => ?_) <;> simp) | with_reducible refine And.intro ?_ ?_ | with_reducible exact okay_rfl rfl | with_reducible assumption | omega)
  refine W_seq (W_seq (?_))
  apply W_regS
  · intro K hK
    simp
    repeat' (first | with_reducible exact hK | (with_reducible refine goL_split (fun _ => ?_) (fun _ => ?_) <;> simp) | with_reducible refine And.intro ?_ ?_ | with_reducible exact okay_rfl rfl | with_reducible assumption | omega)
  refine W_block (W_loop (fun n st => ∃ (i : Nat) (R : List (List D)), n = a.length - i ∧ i ≤ a.length ∧ R = bytesD (m.take i ++ s.drop i) ∧
    st = ⟨[], [(7, .sl 0), (15, .d (.slc 1 (bytesD a))), (16, .d (.int .i64 a.length)), (17, .d (.int .i64 i))], [(0, .arr 0 0 1 R)], 1⟩) _ ⟨0, bytesD s, rfl, by omega, rfl, rfl⟩ ?_)
  rintro n st ⟨i, R, rfl, hi, hR, rfl⟩
  refine W_seq (?_)
  apply W_regS
  · intro K hK
    simp
    repeat' (first | with_reducible exact hK | (with_reducible refine goL_split (fun _ => ?_) (fun _ => ?_) <;> simp) | with_reducible refine And.intro ?_ ?_ | with_reducible exact okay_rfl rfl | with_reducible assumption | omega)
  refine W_seq (?_)
  refine W_cond rfl (fun h2 => W_skip ?_) (fun h2 => W_exit ?_)
  · simp at h2
    have ha := List.getElem?_eq_getElem h2
    have hb := List.getElem?_eq_getElem (show i < s.length by omega)
    generalize a[i] = x at ha
    generalize s[i]'_ = y at hb
    have hxy := u8_xor y x
    rw [UInt8.xor_comm y x] at hxy
    have hmi := hmg i x y ha hb
    have hdr := drop_get hb
    have hRl : R.length = a.length := by rw [hR]; simp; omega
    have hd : R[i]? = some [.int .u8 y.toNat] := by
      rw [hR, hdr]
      show (List.map _ (m.take i ++ y :: s.drop (i + 1)))[i]? = _
      rw [List.map_append, List.map_cons]
      exact mid_get (by simp; omega)
    have hset : R.set i [.int .u8 ((x ^^^ y).toNat : Int)] = bytesD (m.take (i + 1) ++ s.drop (i + 1)) := by
      rw [hR, hdr, List.take_add_one, hmi]
      show (List.map _ (m.take i ++ y :: s.drop (i + 1))).set i _ = List.map _ _
      rw [List.map_append, List.map_cons, set_mid (by simp; omega)]
      simp
    refine W_seq (W_block (W_seq ?_))
    apply W_regS
    · intro K hK
      simp [ha]
      repeat' (first | with_reducible exact hK | (with_reducible refine goL_split (fun _ => ?_) (fun _ => ?_) <;> simp [ha]) | with_reducible refine And.intro ?_ ?_ | with_reducible exact okay_rfl rfl | with_reducible assumption | omega)
    apply W_regS
    · intro K hK
      simp [hd, hRl, hxy]
      repeat' (first | with_reducible exact hK | (with_reducible refine goL_split (fun _ => ?_) (fun _ => ?_) <;> simp [hd, hRl, hxy]) | with_reducible refine And.intro ?_ ?_ | with_reducible exact okay_rfl rfl | with_reducible assumption | omega)
    apply W_regS
    · intro K hK
      simp
      repeat' (first | with_reducible exact hK | (with_reducible refine goL_split (fun _ => ?_) (fun _ => ?_) <;> simp) | with_reducible refine And.intro ?_ ?_ | with_reducible exact okay_rfl rfl | with_reducible assumption | omega)
    refine ⟨a.length - (i + 1), by omega, i + 1, R.set i [.int .u8 ((x ^^^ y).toNat : Int)], rfl, h2, hset, ?_⟩
    simp [gc, closeN, liveA, gcV, gcO, renA, renAs, renO, namesAs, namesA, namesO, posn]
    exact wrap_id (by omega) (by omega)
  · simp at h2
    rw [if_pos rfl]
    have e : R = bytesD m := by rw [hR, List.take_of_length_le (by omega), List.drop_eq_nil_of_le (by omega), List.append_nil]
    subst e
    refine W_seq (?_)
    apply W_regS
    · intro K hK
      simp
      repeat' (first | with_reducible exact hK | (with_reducible refine goL_split (fun _ => ?_) (fun _ => ?_) <;> simp) | with_reducible refine And.intro ?_ ?_ | with_reducible exact okay_rfl rfl | with_reducible assumption | omega)
    refine W_ret ?_
    simp [Fin]
    all_goals omega
theorem own_row {w : World} {Fz : PSet} {base : Nat} {e : TypeId} {v : Value} {n : Nat} {xs : List Value} (h : w.ownsRow base e 1 v n xs) (a : List UInt8) (hx : xs = a.map fun b => Value.int .u8 b.toNat) :
    ∃ S, Own w Fz 1 v (.slc 1 (bytesD a)) S ∧ ∀ x y, S x y → base ≤ x ∧ x < w.heap.size := by
  obtain ⟨hl, h⟩ := h
  have hn : a.length = n := by rw [hx, List.length_map] at hl; omega
  rcases h with ⟨rfl, rfl⟩ | ⟨g, cap, cur, rfl, hb, hg, hnc, _, hsz, htk⟩
  · have : a = [] := List.length_eq_zero_iff.1 hn
    subst this
    exact ⟨fun _ _ => False, .inl ⟨rfl, rfl, fun _ _ h => h⟩, fun _ _ h => h.elim⟩
  · have hlt : g < w.heap.size := by
      rcases Nat.lt_or_ge g w.heap.size with h | h
      · exact h
      · rw [Array.getElem?_eq_none h] at hg; cases hg
    have hcell : ∀ o, o < cap → w.cell? (at_ g (0 + o)) = some (cur.getD o Go.undef) := by
      intro o ho
      have ho2 : o < cur.size := by omega
      unfold World.cell?
      rw [show (at_ g (0 + o)).block = g from rfl, hg]
      simp [Array.getD_eq_getD_getElem?, ho2]
    have hfl : (bytesD a).flatten = a.map fun b => D.int .u8 b.toNat := by
      unfold bytesD
      clear hx htk hn
      induction a with
      | nil => rfl
      | cons x a ih => simp only [List.map_cons, List.flatten_cons, ih]; rfl
    refine ⟨rng g 0 (cap * 1), .inr ⟨g, 0, cap, fun _ _ _ => False, by simp [hn], by simp [bytesD]; omega, ?_, ?_, ?_, fun _ _ _ _ _ _ _ h => h.elim, fun _ _ _ _ _ h => h, fun x y => ?_⟩, ?_⟩
    · intro o ho
      refine ⟨⟨_, hcell o (by omega)⟩, ?_⟩
      unfold World.frz?
      rw [show (at_ g (0 + o)).block = g from rfl, hg]
      simp
    · intro row hr
      simp only [bytesD, List.mem_map] at hr
      obtain ⟨x, _, rfl⟩ := hr
      rfl
    · intro m d hm
      rw [hfl, List.getElem?_map] at hm
      cases hx' : a[m]? with
      | none => rw [hx'] at hm; cases hm
      | some x =>
        rw [hx'] at hm
        cases hm
        have hml := (List.getElem?_eq_some_iff.1 hx').1
        refine ⟨_, hcell m (by omega), ?_, fun _ _ h => h⟩
        have hc : cur.toList[m]? = some (.int .u8 x.toNat) := by
          have h1 : (cur.toList.take (n * 1))[m]? = some (.int .u8 x.toNat) := by rw [htk, hx, List.getElem?_map, hx']; rfl
          rw [List.getElem?_take] at h1
          split at h1
          · exact h1
          · cases h1
        rw [Array.getD_eq_getD_getElem?, ← Array.getElem?_toList, hc]
        exact Shr.int _ _
    · constructor
      · intro h; exact .inl h
      · rintro (h | ⟨_, _, h⟩)
        · exact h
        · exact h.elim
    · rintro x y ⟨rfl, _, _⟩
      exact ⟨hb, hlt⟩
theorem Clone_ok (a : List UInt8) (ha : a.length ≤ 140737488355328) : Valid PP GG 61 [.d (.slc 1 (bytesD a))] (.own 0 1 (bytesD a)) [none] := by
  refine lib_new [.slc 1 (bytesD a)] ⟨Tryd.f61, Tryd.func61, by kernel_rfl, by kernel_rfl⟩ fun w Fz args hG hFz hl hA => ?_
  have h0 := hA 0 _ rfl
  have fin : ∀ (v : Value), args = #[v] → (Calls PP 61 #[v] w fun e w' => ∃ v', e = .returned v' ∧ w'.ownsRow w.heap.size 5 1 v' a.length (a.map fun b => Value.int .u8 b.toNat) ∧ w'.os = w.os ∧ w'.output = w.output ∧ w.heap.size ≤ w'.heap.size ∧ ∀ b, b < w.heap.size → w'.heap[b]? = w.heap[b]?) →
      Calls PP 61 args w fun e w' => ∃ v Fz' S, e = .returned v ∧ (w'.os = w.os ∧ w'.output = w.output) ∧ w.heap.size ≤ w'.heap.size ∧ (∀ b, b < w.heap.size → w'.heap[b]? = w.heap[b]?) ∧
        (∀ b o, Fz b o → Fz' b o) ∧ (∀ b o, Fz' b o → (Fz b o ∨ w.heap.size ≤ b) ∧ b < w'.heap.size) ∧ RC w' Fz' (.own 0 1 (bytesD a)) v S ∧ ∀ x y, S x y → w.heap.size ≤ x ∧ ¬ Fz' x y ∧ x < w'.heap.size := by
    intro v hv hc
    subst hv
    refine hc.mono ?_
    rintro e w' ⟨v', rfl, hrow, h1, h2, h3, h4⟩
    obtain ⟨S, hS, hSb⟩ := own_row (Fz := Fz) hrow a rfl
    exact ⟨v', Fz, S, rfl, ⟨h1, h2⟩, h3, h4, fun _ _ h => h, fun b o h => ⟨.inl h, Nat.lt_of_lt_of_le (hFz b o h) h3⟩, .own 0 1 _ _ _ hS, fun x y h => ⟨(hSb x y h).1, fun hf => by have := hFz x y hf; have := (hSb x y h).1; omega, (hSb x y h).2⟩⟩
  have harg : ∀ v, args.getD 0 Go.undef = v → args = #[v] := fun v hv => args_eq (l := [v]) hl fun i u hu => by
    match i, hu with
    | 0, hu => cases hu; exact hv
  rcases shr_slc_inv h0 with ⟨ad, cap, hv, hrows⟩ | ⟨b, off, cap, vs, hv, hcap, hc⟩
  · have hnil : a = [] := by
      have := congrArg List.length hrows
      simp [bytesD] at this
      exact this
    subst hnil
    refine fin _ (harg _ hv) ?_
    cases ad with
    | none =>
      refine (Go.Proofs.YtmihpclfdicfkaaDoor.Tryd.bytes_Clone_nil 0 cap w).mono ?_
      rintro e w' ⟨rfl, rfl⟩
      exact ⟨_, rfl, ⟨rfl, .inl ⟨rfl, rfl⟩⟩, rfl, rfl, Nat.le_refl _, fun _ _ => rfl⟩
    | some ad =>
      refine (Go.Proofs.YtmihpclfdicfkaaDoor.Tryd.bytes_Clone_at ad 0 cap [] w rfl (by omega) (fun i hi => by omega)).mono ?_
      rintro e w' ⟨v', rfl, hrow, _, hb⟩
      exact ⟨v', rfl, hrow, hb.os, hb.output, hb.size, fun b h => hb.block b h⟩
  · refine fin _ (harg _ hv) ?_
    have hlen : (bytesD a).length = a.length := by simp [bytesD]
    rw [hlen]
    have hfl : (bytesD a).flatten = a.map fun b => D.int .u8 b.toNat := by
      unfold bytesD
      generalize a = l
      induction l with
      | nil => rfl
      | cons x a ih => simp only [List.map_cons, List.flatten_cons, ih]; rfl
    refine (Go.Proofs.YtmihpclfdicfkaaDoor.Tryd.bytes_Clone_at (at_ b off) a.length cap (a.map fun b => (b.toNat : Int)) w (by simp) ha (fun i hi => ?_)).mono ?_
    · have hx := List.getElem?_eq_getElem hi
      obtain ⟨h1, h2⟩ := hc i (.int .u8 (a[i]).toNat) (by rw [hfl, List.getElem?_map, hx]; rfl)
      have h3 := shr_int h2
      rw [h3] at h1
      show w.cell? ((at_ b off).add i) = _
      rw [show (at_ b off).add i = at_ b (off + i) by simp [Addr.add], h1]
      simp [List.getD, hx]
    · rintro e w' ⟨v', rfl, hrow, _, hb⟩
      refine ⟨v', rfl, ?_, hb.os, hb.output, hb.size, fun b h => hb.block b h⟩
      rw [List.map_map] at hrow
      exact hrow
theorem Grow_ok (n : Nat) (hn : n ≤ 1099511627776) : Valid PP GG 103 [.nil 0 1, .d (.int .i64 n)] (.own 0 1 []) [none, none] := by
  refine ⟨⟨Tryd.f103, Tryd.func103, by kernel_rfl, by kernel_rfl⟩, fun w args Fz U hG hFz hRC hap => ?_⟩
  obtain ⟨hl, hRC, hdis⟩ := hRC
  have h0 := hRC 0 _ rfl
  have h1 := hRC 1 _ rfl
  have h2 : args.getD 1 Go.undef = .int .i64 n := by
    generalize args.getD 1 Go.undef = v1 at h1
    cases h1 with | d _ _ _ h _ => exact shr_int h
  obtain ⟨v, hv⟩ : ∃ v, args.getD 0 Go.undef = v := ⟨_, rfl⟩
  rw [hv] at h0
  have hargs : args = #[v, .int .i64 n] := args_eq (l := [v, .int .i64 n]) hl fun i u hu => by
    match i, hu with
    | 0, hu => cases hu; exact hv
    | 1, hu => cases hu; exact h2
  have hvn : v = .slice none 0 0 := by cases h0; rfl
  have grow : ∀ (base : Option Addr) (c : Nat) (cs : List Value), v = .slice base 0 c → c < n → cs.length = c → (base = none → c = 0) → (∀ a, base = some a → ∀ (j : Nat) u, cs[j]? = some u → w.cell? (a.add j) = some u) →
      Calls PP 103 args w fun e w' => ∃ v' Fz' U', e = .returned v' ∧ Post w w' Fz Fz' (fun x y => ∃ i, i < 2 ∧ U i x y) args v' (.own 0 1 []) [none, none] U' := by
    intro base c cs hb hc hcl hnil hcs
    subst hb
    obtain ⟨i0, hi0⟩ : ∃ i0, PP.info? 5 = some i0 := Option.isSome_iff_exists.1 (by kernel_rfl)
    have hz0 : i0.zero = some (.int .u8 0) := by
      have h : (PP.info? 5).bind (·.zero) = some (.int .u8 0) := by kernel_rfl
      rw [hi0] at h; exact h
    have hs0 : i0.size = 1 := by
      have h : (PP.info? 5).map (·.size) = some 1 := by kernel_rfl
      rw [hi0] at h; exact Option.some.inj h
    have hb0 : i0.bytes = 1 := by
      have h : (PP.info? 5).map (·.bytes) = some 1 := by kernel_rfl
      rw [hi0] at h; exact Option.some.inj h
    have hg := Any8.slices_Grow_grow Go.Proofs.YtmihpclfdicfkaaDoor.Tryd.growB i0 (.int .u8 0) hi0 hz0 (by omega) base 0 c n cs w (by omega) (by omega) (by rw [hb0]; omega) (by omega) (by rw [hs0]; omega) hnil hcs
    rw [hargs]
    refine hg.mono ?_
    rintro e w' ⟨rfl, rfl⟩
    have hge : 0 + n ≤ grownCap w (0 + n) c (Go.Proofs.YtmihpclfdicfkaaDoor.Tryd.grow_ren.t 25) := grownCap_ge w _ _ _
    generalize hG : grownCap w (0 + n) c (Go.Proofs.YtmihpclfdicfkaaDoor.Tryd.grow_ren.t 25) = G
    have hge : n ≤ G := by rw [← hG]; have := hge; simpa using this
    obtain ⟨zs, hzs⟩ : ∃ zs, cs.toArray ++ Builtin.zeroCells (Value.int .u8 0).cells (0 + n - c) ++ Builtin.zeroCells (Value.int .u8 0).cells (G - (0 + n)) = zs := ⟨_, rfl⟩
    have hzl : zs.size = G := by
      rw [← hzs]
      simp only [Array.size_append, size_zeroCells]
      show cs.toArray.size + (0 + n - c) * 1 + (G - (0 + n)) * 1 = G
      simp
      omega
    rw [hzs]
    have hblk : ∀ b, b < w.heap.size → (w.drew.alloc (.cells zs (Go.Proofs.YtmihpclfdicfkaaDoor.Tryd.grow_ren.t 25))).heap[b]? = w.heap[b]? := fun b hb => by
      show (w.heap.push _)[b]? = _
      rw [Array.getElem?_push_lt hb, Array.getElem?_eq_getElem hb]
    have hnew : (w.drew.alloc (.cells zs (Go.Proofs.YtmihpclfdicfkaaDoor.Tryd.grow_ren.t 25))).heap[w.heap.size]? = some (.cells zs (Go.Proofs.YtmihpclfdicfkaaDoor.Tryd.grow_ren.t 25)) := by
      show (w.heap.push _)[w.heap.size]? = _
      simp
    have hsz : (w.drew.alloc (.cells zs (Go.Proofs.YtmihpclfdicfkaaDoor.Tryd.grow_ren.t 25))).heap.size = w.heap.size + 1 := by
      show (w.heap.push _).size = _
      simp
    have hside : (w.drew.alloc (.cells zs (Go.Proofs.YtmihpclfdicfkaaDoor.Tryd.grow_ren.t 25))).os = w.os ∧ (w.drew.alloc (.cells zs (Go.Proofs.YtmihpclfdicfkaaDoor.Tryd.grow_ren.t 25))).output = w.output := ⟨rfl, rfl⟩
    generalize w.drew.alloc (.cells zs (Go.Proofs.YtmihpclfdicfkaaDoor.Tryd.grow_ren.t 25)) = w' at hblk hnew hsz hside ⊢
    have hcell : ∀ o, o < G → w'.cell? (at_ w.heap.size (0 + o)) = some (zs.getD o Go.undef) := by
      intro o ho
      have ho2 : o < zs.size := by omega
      unfold World.cell?
      rw [show (at_ w.heap.size (0 + o)).block = w.heap.size from rfl, hnew]
      simp [Array.getD_eq_getD_getElem?, ho2]
    have hres : Own w' Fz 1 (.slice (some ⟨w.heap.size, 0, none⟩) 0 G) (.slc 1 []) (rng w.heap.size 0 (G * 1)) := by
      refine .inr ⟨w.heap.size, 0, G, fun _ _ _ => False, rfl, by simp, fun o ho => ⟨⟨_, hcell o (by omega)⟩, ?_⟩, by simp, fun m d hm => by simp at hm, fun _ _ _ _ _ _ _ h => h.elim, fun _ _ _ _ _ h => h, fun x y => ⟨fun h => .inl h, fun h => h.elim id fun ⟨_, _, h⟩ => h.elim⟩⟩
      unfold World.frz?
      rw [show (at_ w.heap.size (0 + o)).block = w.heap.size from rfl, hnew]
      simp
    refine ⟨_, Fz, fun i => if i = 0 then rng w.heap.size 0 (G * 1) else fun _ _ => False, rfl, hside, by omega, fun b hb _ => hblk b hb, fun b o hb _ => keep_of_heap (hblk b hb) o, fun _ _ h => h, fun b o h => by have := hFz b o h; omega, fun b o h => .inl h, .own 0 1 _ _ _ hres, ?_, ?_, ?_⟩
    · intro m c' hm
      match m, hm with
      | 0, hm => cases hm
      | 1, hm => cases hm
    · intro i j hij x y hx hy
      by_cases hi : i = 0
      · subst hi
        rw [if_neg (by omega)] at hy
        exact hy
      · simp only [hi, if_false] at hx
    · intro i x y hx
      by_cases hi : i = 0
      · subst hi
        simp only [if_true] at hx
        obtain ⟨rfl, _, _⟩ := hx
        exact ⟨.inr (Nat.le_refl _), fun hf => by have := hFz _ _ hf; omega, by omega⟩
      · simp only [hi, if_false] at hx
  subst hvn
  by_cases hn0 : n = 0
  · subst hn0
    have hg := Any8.slices_Grow_room Go.Proofs.YtmihpclfdicfkaaDoor.Tryd.growB none 0 0 0 w (by omega) (by omega) (by omega) (by omega)
    rw [hargs]
    refine hg.mono ?_
    rintro e w' ⟨rfl, rfl⟩
    refine ⟨_, Fz, fun _ _ _ => False, rfl, ⟨rfl, rfl⟩, Nat.le_refl _, fun _ _ _ => rfl, fun _ _ _ _ => ⟨rfl, rfl⟩, fun _ _ h => h, hFz, fun _ _ h => .inl h, .own 0 1 _ _ _ (.inl ⟨rfl, rfl, fun _ _ h => h⟩), ?_, fun _ _ _ _ _ h => h.elim, fun _ _ _ h => h.elim⟩
    intro m c' hm
    match m, hm with
    | 0, hm => cases hm
    | 1, hm => cases hm
  · exact grow none 0 [] rfl (by omega) rfl (fun _ => rfl) (fun a h => by cases h)
def bytesL (ls : List (List UInt8)) : List (List D) := ls.map fun a => [.slc 1 (bytesD a)]
@[simp] theorem bytesL_len (ls : List (List UInt8)) : (bytesL ls).length = ls.length := by simp [bytesL]
@[simp] theorem bytesL_get (ls : List (List UInt8)) (i : Nat) : (bytesL ls)[i]? = (ls[i]?).map fun a => [.slc 1 (bytesD a)] := by simp [bytesL]
theorem flatten_succ {α : Type} {ls : List (List α)} {i : Nat} {a : List α} (h : ls[i]? = some a) : (ls.take (i + 1)).flatten = (ls.take i).flatten ++ a := by
  rw [List.take_add_one, h]; simp
theorem flatten_take_le {α : Type} (ls : List (List α)) (i : Nat) : (ls.take i).flatten.length ≤ ls.flatten.length := by
  conv => rhs; rw [← List.take_append_drop i ls, List.flatten_append, List.length_append]
  omega
theorem bytesD_app (x y : List UInt8) : bytesD (x ++ y) = bytesD x ++ bytesD y := by simp [bytesD]
theorem Concat_ok (ls : List (List UInt8)) (h1 : ls.length ≤ 1000000) (h2 : ls.flatten.length ≤ 1099511627776) : Valid PP GG F_slices_Concat___byte_byte_ [.d (.slc 1 (bytesL ls))] (.own 0 1 (bytesD ls.flatten)) [none] := by
  refine v_slices_Concat___byte_byte_ [.own 0 1 (bytesD ls.flatten)] rfl rfl ?_
  refine W_seq (?_)
  apply W_regS
  · intro K hK
    simp
    repeat' (first | with_reducible exact hK | (with_reducible refine goL_split (fun _ => ?_) (fun _ => ?_) <;> simp) | with_reducible refine And.intro ?_ ?_ | with_reducible exact okay_rfl rfl | with_reducible assumption | omega)
  refine W_seq (?_)
  apply W_regS
  · intro K hK
    simp
    repeat' (first | with_reducible exact hK | (with_reducible refine goL_split (fun _ => ?_) (fun _ => ?_) <;> simp) | with_reducible refine And.intro ?_ ?_ | with_reducible exact okay_rfl rfl | with_reducible assumption | omega)
  refine W_seq (W_seq (?_))
  apply W_regS
  · intro K hK
    simp
    repeat' (first | with_reducible exact hK | (with_reducible refine goL_split (fun _ => ?_) (fun _ => ?_) <;> simp) | with_reducible refine And.intro ?_ ?_ | with_reducible exact okay_rfl rfl | with_reducible assumption | omega)
  refine W_block (W_loop (fun n st => ∃ (i t : Nat), n = ls.length - i ∧ i ≤ ls.length ∧ t = (ls.take i).flatten.length ∧
    st = ⟨[], [(0, .d (.slc 1 (bytesL ls))), (3, .d (.int .i64 t)), (9, .d (.slc 1 (bytesL ls))), (10, .d (.int .i64 ls.length)), (11, .d (.int .i64 i))], [], 0⟩) _ ⟨0, 0, rfl, by omega, rfl, by simp [gc, closeN, liveA, gcV, gcO, renA, renAs, renO, namesAs, namesA, namesO, posn]⟩ ?_)
  rintro n st ⟨i, t, rfl, hi, ht, rfl⟩
  refine W_seq (?_)
  apply W_regS
  · intro K hK
    simp
    repeat' (first | with_reducible exact hK | (with_reducible refine goL_split (fun _ => ?_) (fun _ => ?_) <;> simp) | with_reducible refine And.intro ?_ ?_ | with_reducible exact okay_rfl rfl | with_reducible assumption | omega)
  refine W_seq (?_)
  refine W_cond rfl (fun h => W_skip ?_) (fun h => W_exit ?_)
  · simp at h
    have ha := List.getElem?_eq_getElem h
    generalize ls[i] = a at ha
    have hf := congrArg List.length (flatten_succ ha)
    rw [List.length_append] at hf
    have hle := flatten_take_le ls (i + 1)
    rw [← ht] at hf
    have hw : IntKind.i64.wrap ((t : Int) + a.length) = ((t + a.length : Nat) : Int) := by rw [wrap_id (by omega) (by omega)]; omega
    refine W_seq (W_block (W_seq ?_))
    apply W_regS
    · intro K hK
      simp [ha]
      repeat' (first | with_reducible exact hK | (with_reducible refine goL_split (fun _ => ?_) (fun _ => ?_) <;> simp [ha]) | with_reducible refine And.intro ?_ ?_ | with_reducible exact okay_rfl rfl | with_reducible assumption | omega)
    refine W_seq (?_)
    apply W_regS
    · intro K hK
      simp [hw]
      repeat' (first | with_reducible exact hK | (with_reducible refine goL_split (fun _ => ?_) (fun _ => ?_) <;> simp [hw]) | with_reducible refine And.intro ?_ ?_ | with_reducible exact okay_rfl rfl | with_reducible assumption | omega)
    refine W_seq (?_)
    refine W_regB 20 (false) (fun K hK => ?_) ?_
    · simp
      repeat' (first | exact hK _ _ (by clear hK; first | omega | (exact decide_eq_false (by omega)) | (exact decide_eq_true (by omega)) | (exact (decide_eq_true (by omega)).symm) | (exact (decide_eq_false (by omega)).symm) | (exact decide_eq_decide.2 (by omega)) | (simp only [← decide_not]; exact decide_eq_decide.2 (by omega)) | (simp [*]; done) | (simp [*]; omega) | (simp_all; done) | (simp_all; omega) | (rw [Bool.eq_iff_iff]; simp at *; omega)) | (with_reducible refine goL_split (fun _ => ?_) (fun _ => ?_) <;> simp) | with_reducible refine And.intro ?_ ?_ | with_reducible exact okay_rfl rfl | with_reducible assumption | omega)
    refine W_cond rfl (fun h3 => ?_) (fun h3 => W_skip ?_)
    · cases h3
    apply W_regS
    · intro K hK
      simp
      repeat' (first | with_reducible exact hK | (with_reducible refine goL_split (fun _ => ?_) (fun _ => ?_) <;> simp) | with_reducible refine And.intro ?_ ?_ | with_reducible exact okay_rfl rfl | with_reducible assumption | omega)
    refine ⟨ls.length - (i + 1), by omega, i + 1, t + a.length, rfl, h, hf.symm, ?_⟩
    simp [gc, closeN, liveA, gcV, gcO, renA, renAs, renO, namesAs, namesA, namesO, posn]
    exact wrap_id (by omega) (by omega)
  · simp at h
    rw [List.take_of_length_le h] at ht
    rw [if_pos rfl]
    refine W_seq (?_)
    apply W_regS
    · intro K hK
      simp
      repeat' (first | with_reducible exact hK | (with_reducible refine callQ (Grow_ok t (by omega)) ?_; simp) | (with_reducible refine goL_split (fun _ => ?_) (fun _ => ?_) <;> simp) | with_reducible refine And.intro ?_ ?_ | with_reducible exact okay_rfl rfl | with_reducible assumption | omega)
    refine W_seq (W_seq (?_))
    apply W_regS
    · intro K hK
      simp
      repeat' (first | with_reducible exact hK | (with_reducible refine goL_split (fun _ => ?_) (fun _ => ?_) <;> simp) | with_reducible refine And.intro ?_ ?_ | with_reducible exact okay_rfl rfl | with_reducible assumption | omega)
    refine W_block (W_loop (fun n st => ∃ (i : Nat) (w : List UInt8), n = ls.length - i ∧ i ≤ ls.length ∧ w = (ls.take i).flatten ∧
      st = ⟨[], [(6, .sl 0), (25, .d (.slc 1 (bytesL ls))), (26, .d (.int .i64 ls.length)), (27, .d (.int .i64 i))], [(0, .arr 0 0 1 (bytesD w))], 1⟩) _ ⟨0, [], rfl, by omega, rfl, by simp [gc, closeN, liveA, gcV, gcO, renA, renAs, renO, namesAs, namesA, namesO, posn, bytesD]⟩ ?_)
    rintro n st ⟨i, w, rfl, hi, hwt, rfl⟩
    refine W_seq (?_)
    apply W_regS
    · intro K hK
      simp
      repeat' (first | with_reducible exact hK | (with_reducible refine goL_split (fun _ => ?_) (fun _ => ?_) <;> simp) | with_reducible refine And.intro ?_ ?_ | with_reducible exact okay_rfl rfl | with_reducible assumption | omega)
    refine W_seq (?_)
    refine W_cond rfl (fun h => W_skip ?_) (fun h => W_exit ?_)
    · simp at h
      have ha := List.getElem?_eq_getElem h
      generalize ls[i] = a at ha
      have hs := flatten_succ ha
      have hf := congrArg List.length hs
      rw [List.length_append] at hf
      have hle := flatten_take_le ls (i + 1)
      rw [← hwt] at hf hs
      refine W_seq (W_block (W_seq ?_))
      apply W_regS
      · intro K hK
        simp [ha]
        repeat' (first | with_reducible exact hK | (with_reducible refine goL_split (fun _ => ?_) (fun _ => ?_) <;> simp [ha]) | with_reducible refine And.intro ?_ ?_ | with_reducible exact okay_rfl rfl | with_reducible assumption | omega)
      apply W_regS
      · intro K hK
        simp [limit]
        repeat' (first | with_reducible exact hK | (with_reducible refine goL_split (fun _ => ?_) (fun _ => ?_) <;> simp [limit]) | with_reducible refine And.intro ?_ ?_ | with_reducible exact okay_rfl rfl | with_reducible assumption | omega)
      apply W_regS
      · intro K hK
        simp
        repeat' (first | with_reducible exact hK | (with_reducible refine goL_split (fun _ => ?_) (fun _ => ?_) <;> simp) | with_reducible refine And.intro ?_ ?_ | with_reducible exact okay_rfl rfl | with_reducible assumption | omega)
      refine ⟨ls.length - (i + 1), by omega, i + 1, w ++ a, rfl, h, hs.symm, ?_⟩
      rw [bytesD_app]
      simp [gc, closeN, liveA, gcV, gcO, renA, renAs, renO, namesAs, namesA, namesO, posn]
      exact wrap_id (by omega) (by omega)
    · simp at h
      rw [List.take_of_length_le h] at hwt
      rw [if_pos rfl]
      subst hwt
      refine W_seq (?_)
      apply W_regS
      · intro K hK
        simp
        repeat' (first | with_reducible exact hK | (with_reducible refine goL_split (fun _ => ?_) (fun _ => ?_) <;> simp) | with_reducible refine And.intro ?_ ?_ | with_reducible exact okay_rfl rfl | with_reducible assumption | omega)
      refine W_ret ?_
      simp [Fin]
      all_goals omega
def tagV (k n : Int) (a : List UInt8) : Int := digN (wide k ++ wide n ++ a)
theorem s_TagOf_ok (k n : Int) (a : List UInt8) (hk : keyB k = true) (hn : keyB n = true) (hl : a.length ≤ 2000) : Valid PP GG F_S_TagOf [.d (.int .i64 k), .d (.int .i64 n), .d (.slc 1 (bytesD a))] (.d (.int .i64 (tagV k n a))) [none, none, none] := by
  refine v_S_TagOf [.d (.int .i64 (tagV k n a))] rfl rfl ?_
  have ck := l04Key_ok (GG := GG) k
  have cn := l04Key_ok (GG := GG) n
  rw [hk] at ck
  rw [hn] at cn
  have cp := s_PutWide_ok (GG := GG) k hk
  have cq := s_PutWide_ok (GG := GG) n hn
  have hw1 := wide_len k
  have hw2 := wide_len n
  have i1 := ind_bytes (wide k)
  have i2 := ind_bytes (wide n)
  have i3 := ind_bytes (wide k ++ wide n)
  have i4 := ind_bytes (wide k ++ wide n ++ a)
  have cj := l01Join_ok (GG := GG) (wide k) (wide n) (by omega)
  have cj2 := l01Join_ok (GG := GG) (wide k ++ wide n) a (by simp; omega)
  have cd : Valid PP GG F_S_Digest [.d (.slc 1 (bytesD (wide k ++ wide n ++ a)))] (.d (.int .i64 (tagV k n a))) [none] := Digest_ok (wide k ++ wide n ++ a) (by simp; omega)
  generalize tagV k n a = t at cd ⊢
  generalize wide k ++ wide n ++ a = z3 at cj2 cd i4
  generalize wide k ++ wide n = z2 at cj cj2 i3
  generalize wide k = z0 at cp cj i1
  generalize wide n = z1 at cq cj i2
  have hlen : decide (2000 < (a.length : Int)) = false := decide_eq_false (by omega)
  refine W_seq (?_)
  apply W_regS
  · intro K hK
    simp
    repeat' (first | with_reducible exact hK | (with_reducible refine goL_split (fun _ => ?_) (fun _ => ?_) <;> simp) | with_reducible refine And.intro ?_ ?_ | with_reducible exact okay_rfl rfl | with_reducible assumption | omega)
  refine W_seq (W_seq (?_))
  refine W_regB 19 (false) (fun K hK => ?_) ?_
  · simp [hlen]
    repeat' (first | exact hK _ _ (by clear hK; first | omega | (exact decide_eq_false (by omega)) | (exact decide_eq_true (by omega)) | (exact (decide_eq_true (by omega)).symm) | (exact (decide_eq_false (by omega)).symm) | (exact decide_eq_decide.2 (by omega)) | (simp only [← decide_not]; exact decide_eq_decide.2 (by omega)) | (simp [*]; done) | (simp [*]; omega) | (simp_all; done) | (simp_all; omega) | (rw [Bool.eq_iff_iff]; simp at *; omega)) | (with_reducible refine callQ (ck) ?_; simp [hlen]) | (with_reducible refine callQ (cn) ?_; simp [hlen]) | (with_reducible refine goL_split (fun _ => ?_) (fun _ => ?_) <;> simp [hlen]) | with_reducible refine And.intro ?_ ?_ | with_reducible exact okay_rfl rfl | with_reducible assumption | omega)
  refine W_cond rfl (fun h => ?_) (fun h => W_skip ?_)
  · cases h
  refine W_seq (?_)
  apply W_regS
  · intro K hK
    simp
    repeat' (first | with_reducible exact hK | (with_reducible refine callQ (cp) ?_; simp) | (with_reducible refine callQ (cq) ?_; simp) | (with_reducible refine callQ (cj) ?_; simp) | (with_reducible refine callQ (cj2) ?_; simp) | (with_reducible refine callQ (cd) ?_; simp) | (with_reducible refine goL_split (fun _ => ?_) (fun _ => ?_) <;> simp) | with_reducible refine And.intro ?_ ?_ | with_reducible exact okay_rfl rfl | with_reducible assumption | omega)
  refine W_ret ?_
  simp [Fin]
  all_goals omega
theorem tagOf_ok (k n : Int) (a : List UInt8) (hk : keyB k = true) (hn : keyB n = true) (hl : a.length ≤ 1048576) : Valid PP GG F_I_tagOf [.d (.int .i64 k), .d (.int .i64 n), .d (.slc 1 (bytesD a))] (.d (.int .i64 (tagV k n a))) [none, none, none] := by
  refine v_I_tagOf [.d (.int .i64 (tagV k n a))] rfl rfl ?_
  have cp := i_putWide_ok (GG := GG) k hk
  have cq := i_putWide_ok (GG := GG) n hn
  have hw1 := wide_len k
  have hw2 := wide_len n
  have i1 := ind_bytes (wide k)
  have i2 := ind_bytes (wide n)
  have i4 := ind_bytes (wide k ++ wide n ++ a)
  have cc := Concat_ok (GG := GG) [wide k, wide n, a] (by simp) (by simp; omega)
  have e : [wide k, wide n, a].flatten = wide k ++ wide n ++ a := by simp
  rw [e] at cc
  have cd : Valid PP GG F_I_digest [.d (.slc 1 (bytesD (wide k ++ wide n ++ a)))] (.d (.int .i64 (tagV k n a))) [none] := digest_ok (wide k ++ wide n ++ a) (by simp; omega)
  simp only [bytesL, List.map_cons, List.map_nil] at cc
  generalize tagV k n a = t at cd ⊢
  generalize wide k ++ wide n ++ a = z3 at cc cd i4
  generalize wide k = z0 at cp cc i1
  generalize wide n = z1 at cq cc i2
  refine W_seq (?_)
  apply W_regS
  · intro K hK
    simp
    repeat' (first | with_reducible exact hK | (with_reducible refine goL_split (fun _ => ?_) (fun _ => ?_) <;> simp) | with_reducible refine And.intro ?_ ?_ | with_reducible exact okay_rfl rfl | with_reducible assumption | omega)
  refine W_seq (?_)
  apply W_regS
  · intro K hK
    simp
    repeat' (first | with_reducible exact hK | (with_reducible refine callQ (cp) ?_; simp) | (with_reducible refine callQ (cq) ?_; simp) | (with_reducible refine callQ (cc) ?_; simp) | (with_reducible refine callQ (cd) ?_; simp) | (with_reducible refine goL_split (fun _ => ?_) (fun _ => ?_) <;> simp) | with_reducible refine And.intro ?_ ?_ | with_reducible exact okay_rfl rfl | with_reducible assumption | omega)
  refine W_ret ?_
  simp [Fin]
  all_goals omega
def openR (k : Int) (b : GBox) : Option (List UInt8) := if keyB k = true ∧ keyB b.fNonce = true ∧ b.fData.length ≤ 2000 ∧ tagV k b.fNonce b.fData = b.fTag then some (mask k b.fNonce b.fData) else none
def sealV (k n : Int) (a : List UInt8) : GBox := { fNonce := n, fData := mask k n a, fTag := tagV k n (mask k n a) }
theorem openR_len {k : Int} {b : GBox} {o : List UInt8} (h : openR k b = some o) : o.length = b.fData.length ∧ keyB b.fNonce = true ∧ o.length ≤ 2000 := by
  unfold openR at h
  split at h
  · rename_i hc
    cases h
    rw [mask_len]
    exact ⟨rfl, hc.2.1, hc.2.2.1⟩
  · cases h
theorem openBox_ok (k : Int) (b : GBox) (r : Option (List UInt8)) (hr : openR k b = r) (hb : b.cost ≤ 1048576) (hkey : keyB k = true) : Valid PP GG F_I_openBox [.d (.int .i64 k), .agg b.c] (.tup [.own 0 1 (bytesD (r.getD [])), .d (.bool r.isSome)]) [none, none] := by
  refine v_I_openBox [.own 0 1 (bytesD (r.getD [])), .d (.bool r.isSome)] rfl rfl ?_
  obtain ⟨n, a, t⟩ := b
  have hco : (GBox.mk n a t).cost = a.length := rfl
  have ck := isKey_ok (GG := GG) k
  have cn := isKey_ok (GG := GG) n
  obtain ⟨v, hv⟩ : ∃ v, decide (a.length ≤ 2000) = v := ⟨_, rfl⟩
  have hv2 : decide (2000 < (a.length : Int)) = !v := by rw [← hv, ← decide_not]; exact decide_eq_decide.2 (by omega)
  obtain ⟨p, hp⟩ : ∃ p, keyB k = p := ⟨_, rfl⟩
  obtain ⟨q, hq⟩ : ∃ q, keyB n = q := ⟨_, rfl⟩
  rw [hp] at ck
  rw [hq] at cn
  refine W_seq (?_)
  apply W_regS
  · intro K hK
    simp
    repeat' (first | with_reducible exact hK | (with_reducible refine goL_split (fun _ => ?_) (fun _ => ?_) <;> simp) | with_reducible refine And.intro ?_ ?_ | with_reducible exact okay_rfl rfl | with_reducible assumption | omega)
  cases q with
  | false =>
    have hr0 : r = none := by rw [← hr]; exact if_neg (fun hc => by have := hc.2.1; simp only at this; rw [hq] at this; cases this)
    subst hr0
    refine W_seq (W_seq (?_))
    refine W_regBD 26 (true) (fun K hK => ?_) ?_
    · simp [hv2]
      repeat' (first | exact hK _ _ (by clear hK; first | omega | (exact decide_eq_false (by omega)) | (exact decide_eq_true (by omega)) | (exact (decide_eq_true (by omega)).symm) | (exact (decide_eq_false (by omega)).symm) | (exact decide_eq_decide.2 (by omega)) | (simp only [← decide_not]; exact decide_eq_decide.2 (by omega)) | (simp [*]; done) | (simp [*]; omega) | (simp_all; done) | (simp_all; omega) | (rw [Bool.eq_iff_iff]; simp at *; omega)) | (with_reducible refine callQ (cn) ?_; simp [hv2]) | (with_reducible refine goL_split (fun _ => ?_) (fun _ => ?_) <;> simp [hv2]) | with_reducible refine And.intro ?_ ?_ | with_reducible exact okay_rfl rfl | with_reducible assumption | omega)
    refine W_cond rfl (fun h => W_seq ?_) (fun h => ?_)
    rotate_left
    · cases h
    apply W_regS
    · intro K hK
      simp
      repeat' (first | with_reducible exact hK | (with_reducible refine goL_split (fun _ => ?_) (fun _ => ?_) <;> simp) | with_reducible refine And.intro ?_ ?_ | with_reducible exact okay_rfl rfl | with_reducible assumption | omega)
    refine W_ret ?_
    simp [Fin, bytesD]
    all_goals omega
  | true =>
  cases v with
  | false =>
    have hr0 : r = none := by rw [← hr]; exact if_neg (fun hc => by have := hc.2.2.1; simp only at this; rw [decide_eq_false_iff_not] at hv; exact hv this)
    subst hr0
    refine W_seq (W_seq (?_))
    refine W_regBD 26 (true) (fun K hK => ?_) ?_
    · simp [hv2]
      repeat' (first | exact hK _ _ (by clear hK; first | omega | (exact decide_eq_false (by omega)) | (exact decide_eq_true (by omega)) | (exact (decide_eq_true (by omega)).symm) | (exact (decide_eq_false (by omega)).symm) | (exact decide_eq_decide.2 (by omega)) | (simp only [← decide_not]; exact decide_eq_decide.2 (by omega)) | (simp [*]; done) | (simp [*]; omega) | (simp_all; done) | (simp_all; omega) | (rw [Bool.eq_iff_iff]; simp at *; omega)) | (with_reducible refine callQ (cn) ?_; simp [hv2]) | (with_reducible refine goL_split (fun _ => ?_) (fun _ => ?_) <;> simp [hv2]) | with_reducible refine And.intro ?_ ?_ | with_reducible exact okay_rfl rfl | with_reducible assumption | omega)
    refine W_cond rfl (fun h => W_seq ?_) (fun h => ?_)
    rotate_left
    · cases h
    apply W_regS
    · intro K hK
      simp
      repeat' (first | with_reducible exact hK | (with_reducible refine goL_split (fun _ => ?_) (fun _ => ?_) <;> simp) | with_reducible refine And.intro ?_ ?_ | with_reducible exact okay_rfl rfl | with_reducible assumption | omega)
    refine W_ret ?_
    simp [Fin, bytesD]
    all_goals omega
  | true =>
    have hal : a.length ≤ 2000 := of_decide_eq_true hv
    have ct := tagOf_ok (GG := GG) k n a hkey hq (by omega)
    have cm := crossed_ok (GG := GG) k n a hkey hq (by omega)
    have hind := ind_bytes (mask k n a)
    have hor : openR k (GBox.mk n a t) = if tagV k n a = t then some (mask k n a) else none := by
      unfold openR
      simp only [hkey, hq, true_and]
      by_cases ht : tagV k n a = t
      · rw [if_pos ht, if_pos ⟨hal, ht⟩]
      · rw [if_neg ht, if_neg (fun hc => ht hc.2)]
    rw [hor] at hr
    generalize tagV k n a = z at ct hr
    generalize mask k n a = m at cm hr hind
    obtain ⟨u, hu⟩ : ∃ u, (z != t) = u := ⟨_, rfl⟩
    refine W_seq (W_seq (?_))
    refine W_regBD 26 (u) (fun K hK => ?_) ?_
    · simp [hv2, hu]
      repeat' (first | exact hK _ _ (by clear hK; first | omega | (exact decide_eq_false (by omega)) | (exact decide_eq_true (by omega)) | (exact (decide_eq_true (by omega)).symm) | (exact (decide_eq_false (by omega)).symm) | (exact decide_eq_decide.2 (by omega)) | (simp only [← decide_not]; exact decide_eq_decide.2 (by omega)) | (simp [*]; done) | (simp [*]; omega) | (simp_all; done) | (simp_all; omega) | (rw [Bool.eq_iff_iff]; simp at *; omega)) | (with_reducible refine callQ (cn) ?_; simp [hv2, hu]) | (with_reducible refine callQ (ct) ?_; simp [hv2, hu]) | (with_reducible refine goL_split (fun _ => ?_) (fun _ => ?_) <;> simp [hv2, hu]) | with_reducible refine And.intro ?_ ?_ | with_reducible exact okay_rfl rfl | with_reducible assumption | omega)
    refine W_cond rfl (fun h => W_seq ?_) (fun h => W_skip ?_)
    · rw [if_neg (by rw [h] at hu; simpa using hu)] at hr
      subst hr
      apply W_regS
      · intro K hK
        simp
        repeat' (first | with_reducible exact hK | (with_reducible refine goL_split (fun _ => ?_) (fun _ => ?_) <;> simp) | with_reducible refine And.intro ?_ ?_ | with_reducible exact okay_rfl rfl | with_reducible assumption | omega)
      refine W_ret ?_
      simp [Fin, bytesD]
      all_goals omega
    rw [if_pos (by rw [h] at hu; simpa using hu)] at hr
    subst hr
    refine W_seq (?_)
    apply W_regS
    · intro K hK
      simp
      repeat' (first | with_reducible exact hK | (with_reducible refine callQ (cm) ?_; simp) | (with_reducible refine goL_split (fun _ => ?_) (fun _ => ?_) <;> simp) | with_reducible refine And.intro ?_ ?_ | with_reducible exact okay_rfl rfl | with_reducible assumption | omega)
    refine W_ret ?_
    simp [Fin]
    all_goals omega
theorem s_SealBox_ok (k n : Int) (a : List UInt8) (hk : keyB k = true) (hn : keyB n = true) (ha : a.length ≤ 2000) : Valid PP GG F_S_SealBox [.d (.int .i64 k), .d (.int .i64 n), .d (.slc 1 (bytesD a))] (.tup [.agg (sealV k n a).o, .d (.bool true)]) [none, none, none] := by
  refine v_S_SealBox [.agg (sealV k n a).o, .d (.bool true)] rfl rfl ?_
  have ck := l04Key_ok (GG := GG) k
  have cn := l04Key_ok (GG := GG) n
  rw [hk] at ck
  rw [hn] at cn
  have hv2 : decide (2000 < (a.length : Int)) = false := decide_eq_false (by omega)
  have cm := l04Mask_ok (GG := GG) k n a hk hn ha
  have ct := s_TagOf_ok (GG := GG) k n (mask k n a) hk hn (by rw [mask_len]; exact ha)
  have hind := ind_bytes (mask k n a)
  simp only [sealV]
  generalize tagV k n (mask k n a) = z at ct ⊢
  generalize mask k n a = m at cm ct hind ⊢
  refine W_seq (?_)
  apply W_regS
  · intro K hK
    simp
    repeat' (first | with_reducible exact hK | (with_reducible refine goL_split (fun _ => ?_) (fun _ => ?_) <;> simp) | with_reducible refine And.intro ?_ ?_ | with_reducible exact okay_rfl rfl | with_reducible assumption | omega)
  refine W_seq (W_seq (?_))
  refine W_regB 21 (false) (fun K hK => ?_) ?_
  · simp [hv2]
    repeat' (first | exact hK _ _ (by clear hK; first | omega | (exact decide_eq_false (by omega)) | (exact decide_eq_true (by omega)) | (exact (decide_eq_true (by omega)).symm) | (exact (decide_eq_false (by omega)).symm) | (exact decide_eq_decide.2 (by omega)) | (simp only [← decide_not]; exact decide_eq_decide.2 (by omega)) | (simp [*]; done) | (simp [*]; omega) | (simp_all; done) | (simp_all; omega) | (rw [Bool.eq_iff_iff]; simp at *; omega)) | (with_reducible refine callQ (ck) ?_; simp [hv2]) | (with_reducible refine callQ (cn) ?_; simp [hv2]) | (with_reducible refine goL_split (fun _ => ?_) (fun _ => ?_) <;> simp [hv2]) | with_reducible refine And.intro ?_ ?_ | with_reducible exact okay_rfl rfl | with_reducible assumption | omega)
  refine W_cond rfl (fun h => ?_) (fun h => W_skip ?_)
  · cases h
  refine W_seq (?_)
  apply W_regS
  · intro K hK
    simp
    repeat' (first | with_reducible exact hK | (with_reducible refine callQ (cm) ?_; simp) | (with_reducible refine goL_split (fun _ => ?_) (fun _ => ?_) <;> simp) | with_reducible refine And.intro ?_ ?_ | with_reducible exact okay_rfl rfl | with_reducible assumption | omega)
  refine W_seq (?_)
  apply W_regS
  · intro K hK
    simp
    repeat' (first | with_reducible exact hK | (with_reducible refine callQ (ct) ?_; simp) | (with_reducible refine goL_split (fun _ => ?_) (fun _ => ?_) <;> simp) | with_reducible refine And.intro ?_ ?_ | with_reducible exact okay_rfl rfl | with_reducible assumption | omega)
  refine W_ret ?_
  simp [Fin]
  all_goals omega
theorem sealBox_ok (k n : Int) (a : List UInt8) (hk : keyB k = true) (hn : keyB n = true) (ha : a.length ≤ 1048576) : Valid PP GG F_I_sealBox [.d (.int .i64 k), .d (.int .i64 n), .d (.slc 1 (bytesD a))] (.agg (sealV k n a).o) [none, none, none] := by
  refine v_I_sealBox [.agg (sealV k n a).o] rfl rfl ?_
  have cm := crossed_ok (GG := GG) k n a hk hn ha
  have ct := tagOf_ok (GG := GG) k n (mask k n a) hk hn (by rw [mask_len]; exact ha)
  have hind := ind_bytes (mask k n a)
  simp only [sealV]
  generalize tagV k n (mask k n a) = z at ct ⊢
  generalize mask k n a = m at cm ct hind ⊢
  refine W_seq (?_)
  apply W_regS
  · intro K hK
    simp
    repeat' (first | with_reducible exact hK | (with_reducible refine goL_split (fun _ => ?_) (fun _ => ?_) <;> simp) | with_reducible refine And.intro ?_ ?_ | with_reducible exact okay_rfl rfl | with_reducible assumption | omega)
  refine W_seq (?_)
  apply W_regS
  · intro K hK
    simp
    repeat' (first | with_reducible exact hK | (with_reducible refine callQ (cm) ?_; simp) | (with_reducible refine goL_split (fun _ => ?_) (fun _ => ?_) <;> simp) | with_reducible refine And.intro ?_ ?_ | with_reducible exact okay_rfl rfl | with_reducible assumption | omega)
  refine W_seq (?_)
  apply W_regS
  · intro K hK
    simp
    repeat' (first | with_reducible exact hK | (with_reducible refine callQ (ct) ?_; simp) | (with_reducible refine goL_split (fun _ => ?_) (fun _ => ?_) <;> simp) | with_reducible refine And.intro ?_ ?_ | with_reducible exact okay_rfl rfl | with_reducible assumption | omega)
  refine W_ret ?_
  simp [Fin]
  all_goals omega
theorem l14CopyWrap_ok (w : GWrap) (hw : w.cost ≤ 1048576) : Valid PP GG F_S_l14CopyWrap [.agg w.c] (.agg w.o) [none] := by
  refine v_S_l14CopyWrap [.agg w.o] rfl rfl ?_
  have h1 : w.cost = w.fKind.length + w.fBox.cost := rfl
  have h2 : w.fBox.cost = w.fBox.fData.length := rfl
  have cb := l01Bytes_ok (GG := GG) w.fBox.fData (by omega)
  have hind := ind_bytes w.fBox.fData
  refine W_seq (?_)
  apply W_regS
  · intro K hK
    simp
    repeat' (first | with_reducible exact hK | (with_reducible refine goL_split (fun _ => ?_) (fun _ => ?_) <;> simp) | with_reducible refine And.intro ?_ ?_ | with_reducible exact okay_rfl rfl | with_reducible assumption | omega)
  refine W_seq (?_)
  apply W_regS
  · intro K hK
    simp
    repeat' (first | with_reducible exact hK | (with_reducible refine callQ (cb) ?_; simp) | (with_reducible refine goL_split (fun _ => ?_) (fun _ => ?_) <;> simp) | with_reducible refine And.intro ?_ ?_ | with_reducible exact okay_rfl rfl | with_reducible assumption | omega)
  refine W_seq (?_)
  apply W_regS
  · intro K hK
    simp
    repeat' (first | with_reducible exact hK | (with_reducible refine goL_split (fun _ => ?_) (fun _ => ?_) <;> simp) | with_reducible refine And.intro ?_ ?_ | with_reducible exact okay_rfl rfl | with_reducible assumption | omega)
  refine W_ret ?_
  simp [Fin]
  all_goals omega
theorem rWrap_snoc (l : List GWrap) (x : GWrap) : rWrap (l ++ [x]) = rWrap l ++ [x.row] := by simp [rWrap]
theorem l14Copy_ok (r : GRack) (hc : r.cost ≤ 1048576) : Valid PP GG F_S_l14Copy [.agg r.c] (.agg r.o) [none] := by
  refine v_S_l14Copy [.agg r.o] rfl rfl ?_
  obtain ⟨f, k, l⟩ := r
  have hco : (GRack.mk f k l).cost = l.length + sumBy GWrap.cost l := rfl
  refine W_seq (?_)
  apply W_regS
  · intro K hK
    simp
    repeat' (first | with_reducible exact hK | (with_reducible refine goL_split (fun _ => ?_) (fun _ => ?_) <;> simp) | with_reducible refine And.intro ?_ ?_ | with_reducible exact okay_rfl rfl | with_reducible assumption | omega)
  refine W_seq (?_)
  apply W_regS
  · intro K hK
    simp
    repeat' (first | with_reducible exact hK | (with_reducible refine goL_split (fun _ => ?_) (fun _ => ?_) <;> simp) | with_reducible refine And.intro ?_ ?_ | with_reducible exact okay_rfl rfl | with_reducible assumption | omega)
  refine W_seq (W_seq (?_))
  apply W_regS
  · intro K hK
    simp
    repeat' (first | with_reducible exact hK | (with_reducible refine goL_split (fun _ => ?_) (fun _ => ?_) <;> simp) | with_reducible refine And.intro ?_ ?_ | with_reducible exact okay_rfl rfl | with_reducible assumption | omega)
  refine W_block (W_loop (fun n st => ∃ (i : Nat) (w : List GWrap), n = l.length - i ∧ i ≤ l.length ∧ w = l.take i ∧
    ((i = 0 ∧ st = ⟨[], [(1, .ptr 0 0), (2, .ptr 1 0), (3, .ptr 2 0), (4, .d (.int .i64 0))], [(0, .box [.d (.int .i64 f), .d (.int .i64 k), .d (.slc 6 (rWrap l))]), (1, .box [.d (.int .i64 0), .d (.int .i64 0), .nil 1 6]), (2, .box [.d (.int .i64 f), .d (.int .i64 k), .nil 1 6])], 3⟩) ∨
     st = ⟨[], [(1, .ptr 0 0), (2, .ptr 1 0), (3, .ptr 2 0), (4, .d (.int .i64 i))], [(0, .box [.d (.int .i64 f), .d (.int .i64 k), .d (.slc 6 (rWrap l))]), (1, .box [.d (.int .i64 0), .d (.int .i64 0), .nil 1 6]), (2, .box [.d (.int .i64 f), .d (.int .i64 k), .sl 3]), (3, .arr 0 1 6 (rWrap w))], 4⟩)) _ ⟨0, [], rfl, by omega, rfl, .inl ⟨rfl, rfl⟩⟩ ?_)
  rintro n st ⟨i, w, rfl, hi, hw, ⟨rfl, rfl⟩ | rfl⟩
  · refine W_seq (W_seq (?_))
    apply W_regS
    · intro K hK
      simp
      repeat' (first | with_reducible exact hK | (with_reducible refine goL_split (fun _ => ?_) (fun _ => ?_) <;> simp) | with_reducible refine And.intro ?_ ?_ | with_reducible exact okay_rfl rfl | with_reducible assumption | omega)
    refine W_cond rfl (fun h => W_skip ?_) (fun h => W_exit ?_)
    · simp at h
      have ha := List.getElem?_eq_getElem h
      generalize l[0] = x at ha
      have hg := sumBy_get (f := GWrap.cost) ha
      have cw := l14CopyWrap_ok (GG := GG) x (by omega)
      refine W_seq (W_block ?_)
      apply W_regD
      · intro K hK
        simp [ha, limit]
        repeat' (first | with_reducible exact hK | (with_reducible refine callQ (cw) ?_; simp [ha, limit]) | (with_reducible refine goL_split (fun _ => ?_) (fun _ => ?_) <;> simp [ha, limit]) | with_reducible refine And.intro ?_ ?_ | with_reducible exact okay_rfl rfl | with_reducible assumption | omega)
      apply W_regS
      · intro K hK
        simp
        repeat' (first | with_reducible exact hK | (with_reducible refine goL_split (fun _ => ?_) (fun _ => ?_) <;> simp) | with_reducible refine And.intro ?_ ?_ | with_reducible exact okay_rfl rfl | with_reducible assumption | omega)
      refine ⟨l.length - (0 + 1), by omega, 0 + 1, [x], rfl, h, by rw [List.take_add_one, ha]; rfl, .inr ?_⟩
      simp [gc, closeN, liveA, gcV, gcO, renA, renAs, renO, namesAs, namesA, namesO, posn, rWrap]
      exact wrap_id (by omega) (by omega)
    · simp at h
      have hnil : l = [] := by first | exact h | exact List.length_eq_zero_iff.1 (by omega)
      rw [if_pos rfl]
      refine W_seq (?_)
      apply W_regS
      · intro K hK
        simp
        repeat' (first | with_reducible exact hK | (with_reducible refine goL_split (fun _ => ?_) (fun _ => ?_) <;> simp) | with_reducible refine And.intro ?_ ?_ | with_reducible exact okay_rfl rfl | with_reducible assumption | omega)
      refine W_ret ?_
      simp [Fin, hnil, rWrap]
      all_goals omega
  · refine W_seq (W_seq (?_))
    apply W_regS
    · intro K hK
      simp
      repeat' (first | with_reducible exact hK | (with_reducible refine goL_split (fun _ => ?_) (fun _ => ?_) <;> simp) | with_reducible refine And.intro ?_ ?_ | with_reducible exact okay_rfl rfl | with_reducible assumption | omega)
    refine W_cond rfl (fun h => W_skip ?_) (fun h => W_exit ?_)
    · simp at h
      have ha := List.getElem?_eq_getElem h
      generalize l[i] = x at ha
      have hg := sumBy_get (f := GWrap.cost) ha
      have cw := l14CopyWrap_ok (GG := GG) x (by omega)
      have hwl : w.length ≤ l.length := by rw [hw, List.length_take]; omega
      have hs : w ++ [x] = l.take (i + 1) := by rw [hw, List.take_add_one, ha]; rfl
      refine W_seq (W_block ?_)
      apply W_regD
      · intro K hK
        simp [ha, limit]
        repeat' (first | with_reducible exact hK | (with_reducible refine callQ (cw) ?_; simp [ha, limit]) | (with_reducible refine goL_split (fun _ => ?_) (fun _ => ?_) <;> simp [ha, limit]) | with_reducible refine And.intro ?_ ?_ | with_reducible exact okay_rfl rfl | with_reducible assumption | omega)
      apply W_regS
      · intro K hK
        simp
        repeat' (first | with_reducible exact hK | (with_reducible refine goL_split (fun _ => ?_) (fun _ => ?_) <;> simp) | with_reducible refine And.intro ?_ ?_ | with_reducible exact okay_rfl rfl | with_reducible assumption | omega)
      refine ⟨l.length - (i + 1), by omega, i + 1, w ++ [x], rfl, h, hs, .inr ?_⟩
      rw [rWrap_snoc]
      simp [gc, closeN, liveA, gcV, gcO, renA, renAs, renO, namesAs, namesA, namesO, posn]
      exact wrap_id (by omega) (by omega)
    · simp at h
      rw [List.take_of_length_le h] at hw
      subst hw
      rw [if_pos rfl]
      refine W_seq (?_)
      apply W_regS
      · intro K hK
        simp
        repeat' (first | with_reducible exact hK | (with_reducible refine goL_split (fun _ => ?_) (fun _ => ?_) <;> simp) | with_reducible refine And.intro ?_ ?_ | with_reducible exact okay_rfl rfl | with_reducible assumption | omega)
      refine W_ret ?_
      simp [Fin]
      all_goals omega
theorem cloneRack_ok (r : GRack) (hc : r.cost ≤ 1048576) : Valid PP GG F_I_cloneRack [.agg r.c] (.agg r.o) [none] := by
  refine v_I_cloneRack [.agg r.o] rfl rfl ?_
  obtain ⟨f, k, l⟩ := r
  have hco : (GRack.mk f k l).cost = l.length + sumBy GWrap.cost l := rfl
  refine W_seq (?_)
  apply W_regS
  · intro K hK
    simp
    repeat' (first | with_reducible exact hK | (with_reducible refine goL_split (fun _ => ?_) (fun _ => ?_) <;> simp) | with_reducible refine And.intro ?_ ?_ | with_reducible exact okay_rfl rfl | with_reducible assumption | omega)
  refine W_seq (?_)
  apply W_regS
  · intro K hK
    simp
    repeat' (first | with_reducible exact hK | (with_reducible refine goL_split (fun _ => ?_) (fun _ => ?_) <;> simp) | with_reducible refine And.intro ?_ ?_ | with_reducible exact okay_rfl rfl | with_reducible assumption | omega)
  refine W_seq (W_seq (?_))
  apply W_regS
  · intro K hK
    simp
    repeat' (first | with_reducible exact hK | (with_reducible refine goL_split (fun _ => ?_) (fun _ => ?_) <;> simp) | with_reducible refine And.intro ?_ ?_ | with_reducible exact okay_rfl rfl | with_reducible assumption | omega)
  refine W_block (W_loop (fun n st => ∃ (i : Nat) (w : List GWrap), n = l.length - i ∧ i ≤ l.length ∧ w = l.take i ∧
    ((i = 0 ∧ st = ⟨[], [(2, .ptr 0 0), (3, .ptr 1 0), (12, .d (.slc 6 (rWrap l))), (13, .d (.int .i64 l.length)), (14, .d (.int .i64 0))], [(0, .box [.d (.int .i64 0), .d (.int .i64 0), .nil 1 6]), (1, .box [.d (.int .i64 f), .d (.int .i64 k), .nil 1 6])], 2⟩) ∨
     st = ⟨[], [(2, .ptr 0 0), (3, .ptr 1 0), (12, .d (.slc 6 (rWrap l))), (13, .d (.int .i64 l.length)), (14, .d (.int .i64 i))], [(0, .box [.d (.int .i64 0), .d (.int .i64 0), .nil 1 6]), (1, .box [.d (.int .i64 f), .d (.int .i64 k), .sl 2]), (2, .arr 0 1 6 (rWrap w))], 3⟩)) _ ⟨0, [], rfl, by omega, rfl, .inl ⟨rfl, rfl⟩⟩ ?_)
  rintro n st ⟨i, w, rfl, hi, hw, ⟨rfl, rfl⟩ | rfl⟩
  · refine W_seq (?_)
    apply W_regS
    · intro K hK
      simp
      repeat' (first | with_reducible exact hK | (with_reducible refine goL_split (fun _ => ?_) (fun _ => ?_) <;> simp) | with_reducible refine And.intro ?_ ?_ | with_reducible exact okay_rfl rfl | with_reducible assumption | omega)
    refine W_seq (?_)
    refine W_cond rfl (fun h => W_skip ?_) (fun h => W_exit ?_)
    · simp at h
      have ha := List.getElem?_eq_getElem h
      generalize l[0] = x at ha
      have hg := sumBy_get (f := GWrap.cost) ha
      have h1 : x.cost = x.fKind.length + x.fBox.cost := rfl
      have h2 : x.fBox.cost = x.fBox.fData.length := rfl
      have cw := Clone_ok (GG := GG) x.fBox.fData (by omega)
      have hind := ind_bytes x.fBox.fData
      refine W_seq (W_block (W_seq ?_))
      apply W_regS
      · intro K hK
        simp [ha]
        repeat' (first | with_reducible exact hK | (with_reducible refine goL_split (fun _ => ?_) (fun _ => ?_) <;> simp [ha]) | with_reducible refine And.intro ?_ ?_ | with_reducible exact okay_rfl rfl | with_reducible assumption | omega)
      refine W_seq (?_)
      apply W_regS
      · intro K hK
        simp
        repeat' (first | with_reducible exact hK | (with_reducible refine callQ (cw) ?_; simp) | (with_reducible refine goL_split (fun _ => ?_) (fun _ => ?_) <;> simp) | with_reducible refine And.intro ?_ ?_ | with_reducible exact okay_rfl rfl | with_reducible assumption | omega)
      apply W_regS
      · intro K hK
        simp [limit]
        repeat' (first | with_reducible exact hK | (with_reducible refine goL_split (fun _ => ?_) (fun _ => ?_) <;> simp [limit]) | with_reducible refine And.intro ?_ ?_ | with_reducible exact okay_rfl rfl | with_reducible assumption | omega)
      apply W_regS
      · intro K hK
        simp
        repeat' (first | with_reducible exact hK | (with_reducible refine goL_split (fun _ => ?_) (fun _ => ?_) <;> simp) | with_reducible refine And.intro ?_ ?_ | with_reducible exact okay_rfl rfl | with_reducible assumption | omega)
      refine ⟨l.length - (0 + 1), by omega, 0 + 1, [x], rfl, h, by rw [List.take_add_one, ha]; rfl, .inr ?_⟩
      simp [gc, closeN, liveA, gcV, gcO, renA, renAs, renO, namesAs, namesA, namesO, posn, rWrap]
      exact wrap_id (by omega) (by omega)
    · simp at h
      have hnil : l = [] := by first | exact h | exact List.length_eq_zero_iff.1 (by omega)
      rw [if_pos rfl]
      refine W_seq (?_)
      apply W_regS
      · intro K hK
        simp
        repeat' (first | with_reducible exact hK | (with_reducible refine goL_split (fun _ => ?_) (fun _ => ?_) <;> simp) | with_reducible refine And.intro ?_ ?_ | with_reducible exact okay_rfl rfl | with_reducible assumption | omega)
      refine W_ret ?_
      simp [Fin, hnil, rWrap]
      all_goals omega
  · refine W_seq (?_)
    apply W_regS
    · intro K hK
      simp
      repeat' (first | with_reducible exact hK | (with_reducible refine goL_split (fun _ => ?_) (fun _ => ?_) <;> simp) | with_reducible refine And.intro ?_ ?_ | with_reducible exact okay_rfl rfl | with_reducible assumption | omega)
    refine W_seq (?_)
    refine W_cond rfl (fun h => W_skip ?_) (fun h => W_exit ?_)
    · simp at h
      have ha := List.getElem?_eq_getElem h
      generalize l[i] = x at ha
      have hg := sumBy_get (f := GWrap.cost) ha
      have h1 : x.cost = x.fKind.length + x.fBox.cost := rfl
      have h2 : x.fBox.cost = x.fBox.fData.length := rfl
      have cw := Clone_ok (GG := GG) x.fBox.fData (by omega)
      have hind := ind_bytes x.fBox.fData
      have hwl : w.length ≤ l.length := by rw [hw, List.length_take]; omega
      have hs : w ++ [x] = l.take (i + 1) := by rw [hw, List.take_add_one, ha]; rfl
      refine W_seq (W_block (W_seq ?_))
      apply W_regS
      · intro K hK
        simp [ha]
        repeat' (first | with_reducible exact hK | (with_reducible refine goL_split (fun _ => ?_) (fun _ => ?_) <;> simp [ha]) | with_reducible refine And.intro ?_ ?_ | with_reducible exact okay_rfl rfl | with_reducible assumption | omega)
      refine W_seq (?_)
      apply W_regS
      · intro K hK
        simp
        repeat' (first | with_reducible exact hK | (with_reducible refine callQ (cw) ?_; simp) | (with_reducible refine goL_split (fun _ => ?_) (fun _ => ?_) <;> simp) | with_reducible refine And.intro ?_ ?_ | with_reducible exact okay_rfl rfl | with_reducible assumption | omega)
      apply W_regS
      · intro K hK
        simp [limit]
        repeat' (first | with_reducible exact hK | (with_reducible refine goL_split (fun _ => ?_) (fun _ => ?_) <;> simp [limit]) | with_reducible refine And.intro ?_ ?_ | with_reducible exact okay_rfl rfl | with_reducible assumption | omega)
      apply W_regS
      · intro K hK
        simp
        repeat' (first | with_reducible exact hK | (with_reducible refine goL_split (fun _ => ?_) (fun _ => ?_) <;> simp) | with_reducible refine And.intro ?_ ?_ | with_reducible exact okay_rfl rfl | with_reducible assumption | omega)
      refine ⟨l.length - (i + 1), by omega, i + 1, w ++ [x], rfl, h, hs, .inr ?_⟩
      rw [rWrap_snoc]
      simp [gc, closeN, liveA, gcV, gcO, renA, renAs, renO, namesAs, namesA, namesO, posn]
      exact wrap_id (by omega) (by omega)
    · simp at h
      rw [List.take_of_length_le h] at hw
      subst hw
      rw [if_pos rfl]
      refine W_seq (?_)
      apply W_regS
      · intro K hK
        simp
        repeat' (first | with_reducible exact hK | (with_reducible refine goL_split (fun _ => ?_) (fun _ => ?_) <;> simp) | with_reducible refine And.intro ?_ ?_ | with_reducible exact okay_rfl rfl | with_reducible assumption | omega)
      refine W_ret ?_
      simp [Fin]
      all_goals omega
def rekeyW (k key : Int) : List GWrap → List GWrap
  | [] => []
  | x :: r => (match openR k x.fBox with | some o => [({ fId := x.fId, fEnds := x.fEnds, fKind := x.fKind, fBox := sealV key x.fBox.fNonce o } : GWrap)] | none => []) ++ rekeyW k key r
def rekeyR (r : GRack) (key : Int) : GRack := if rackOk r = true ∧ keyB key = true then { fKey := key, fNext := r.fNext, fWraps := rekeyW r.fKey key r.fWraps } else r
def rekeyB (r : GRack) (key : Int) : Bool := decide (rackOk r = true ∧ keyB key = true)
theorem rekeyW_app (k key : Int) (a b : List GWrap) : rekeyW k key (a ++ b) = rekeyW k key a ++ rekeyW k key b := by
  induction a with
  | nil => rfl
  | cons x a ih => simp only [List.cons_append, rekeyW, ih, List.append_assoc]
theorem rekeyW_some {k key : Int} {l : List GWrap} {i : Nat} {x : GWrap} {o : List UInt8} (h : l[i]? = some x) (ho : openR k x.fBox = some o) :
    rekeyW k key (l.take (i + 1)) = rekeyW k key (l.take i) ++ [{ fId := x.fId, fEnds := x.fEnds, fKind := x.fKind, fBox := sealV key x.fBox.fNonce o }] := by
  rw [List.take_add_one, h]
  show rekeyW k key (l.take i ++ [x]) = _
  rw [rekeyW_app]; simp [rekeyW, ho]
end Go.Proofs.YtmihpclfdicfkaaDoor.Ab
