/-
  A part of a proof about the given program; what is proved is said where each theorem stands.
-/
import Derived.Test.YtjdepagpjkoglaaDoorFrameA
import Derived.Test.YtjdepagpjkoglaaDoorFrameB
import Derived.Test.YtjdepagpjkoglaaDoorFrameC
import Derived.Test.YtjdepagpjkoglaaDoorFrameD
import Derived.Test.YtjdepagpjkoglaaDoorFrameE
import Derived.Test.YtjdepagpjkoglaaDoorShelf
import Derived.Test.YtjdepagpjkoglaaDoorCodesResp
import Derived.Test.YtjdepagpjkoglaaDoorRespA
set_option linter.unusedSimpArgs false
set_option linter.unusedVariables false
set_option maxRecDepth 100000
namespace Go.Proofs.YtjdepagpjkoglaaDoor.Ab

def dA (l : List UInt8) : Nat := l.foldl (fun p b => (131 * p + b.toNat + 1) % 2147483647) 7
def dB (l : List UInt8) : Nat := l.foldl (fun p b => (137 * p + b.toNat + 3) % 2147483629) 11
def digN (l : List UInt8) : Int := 2147483648 * (dA l : Int) + (dB l : Int)

theorem dA_lt (l : List UInt8) : dA l < 2147483647 := by
  rcases List.eq_nil_or_concat l with rfl | ⟨r, x, rfl⟩
  · simp [dA]
  · simp only [dA, List.concat_eq_append, List.foldl_append, List.foldl_cons, List.foldl_nil]; omega
theorem dB_lt (l : List UInt8) : dB l < 2147483629 := by
  rcases List.eq_nil_or_concat l with rfl | ⟨r, x, rfl⟩
  · simp [dB]
  · simp only [dB, List.concat_eq_append, List.foldl_append, List.foldl_cons, List.foldl_nil]; omega
theorem dA_succ {l : List UInt8} {i : Nat} {x : UInt8} (h : l[i]? = some x) : dA (l.take (i + 1)) = (131 * dA (l.take i) + x.toNat + 1) % 2147483647 := by
  rw [List.take_add_one, h]; simp [dA, List.foldl_append]
theorem dB_succ {l : List UInt8} {i : Nat} {x : UInt8} (h : l[i]? = some x) : dB (l.take (i + 1)) = (137 * dB (l.take i) + x.toNat + 3) % 2147483629 := by
  rw [List.take_add_one, h]; simp [dB, List.foldl_append]

theorem stepA (p : Nat) (x : UInt8) (hp : p < 2147483647) : (IntKind.i64.wrap (IntKind.i64.wrap (IntKind.i64.wrap (131 * (p : Int)) + IntKind.i64.wrap (x.toNat : Int)) + 1)).tmod 2147483647 = (((131 * p + x.toNat + 1) % 2147483647 : Nat) : Int) := by
  have hx := x.toNat_lt
  rw [wrap_id (n := 131 * (p : Int)) (by omega) (by omega), wrap_id (n := (x.toNat : Int)) (by omega) (by omega), wrap_id (n := 131 * (p : Int) + x.toNat) (by omega) (by omega), wrap_id (by omega) (by omega)]
  rw [Int.tmod_eq_emod_of_nonneg (by omega)]
  omega
theorem stepB (p : Nat) (x : UInt8) (hp : p < 2147483629) : (IntKind.i64.wrap (IntKind.i64.wrap (IntKind.i64.wrap (137 * (p : Int)) + IntKind.i64.wrap (x.toNat : Int)) + 3)).tmod 2147483629 = (((137 * p + x.toNat + 3) % 2147483629 : Nat) : Int) := by
  have hx := x.toNat_lt
  rw [wrap_id (n := 137 * (p : Int)) (by omega) (by omega), wrap_id (n := (x.toNat : Int)) (by omega) (by omega), wrap_id (n := 137 * (p : Int) + x.toNat) (by omega) (by omega), wrap_id (by omega) (by omega)]
  rw [Int.tmod_eq_emod_of_nonneg (by omega)]
  omega
theorem digFin (l : List UInt8) : IntKind.i64.wrap (IntKind.i64.wrap (2147483648 * (dA l : Int)) + (dB l : Int)) = digN l := by
  have := dA_lt l
  have := dB_lt l
  rw [wrap_id (n := 2147483648 * (dA l : Int)) (by omega) (by omega), wrap_id (by omega) (by omega)]; rfl

theorem Digest_ok (a : List UInt8) (ha : a.length ≤ 140737488355328) : Valid PP GG F_S_Digest [.d (.slc 1 (bytesD a))] (.d (.int .i64 (digN a))) [none] := by
  refine v_S_Digest [.d (.int .i64 (digN a))] rfl rfl ?_
  refine W_seq (?_)
  apply W_regS
  · intro K hK
    simp
    repeat' (first | with_reducible exact hK | (with_reducible refine goL_split (fun _ => ?_) (fun _ => ?_) <;> simp) | with_reducible refine And.intro ?_ ?_ | with_reducible exact okay_rfl rfl | omega)
  refine W_seq (?_)
  apply W_regS
  · intro K hK
    simp
    repeat' (first | with_reducible exact hK | (with_reducible refine goL_split (fun _ => ?_) (fun _ => ?_) <;> simp) | with_reducible refine And.intro ?_ ?_ | with_reducible exact okay_rfl rfl | omega)
  refine W_seq (?_)
  apply W_regS
  · intro K hK
    simp
    repeat' (first | with_reducible exact hK | (with_reducible refine goL_split (fun _ => ?_) (fun _ => ?_) <;> simp) | with_reducible refine And.intro ?_ ?_ | with_reducible exact okay_rfl rfl | omega)
  refine W_seq (W_seq (?_))
  apply W_regS
  · intro K hK
    simp
    repeat' (first | with_reducible exact hK | (with_reducible refine goL_split (fun _ => ?_) (fun _ => ?_) <;> simp) | with_reducible refine And.intro ?_ ?_ | with_reducible exact okay_rfl rfl | omega)
  refine W_block (W_loop (fun n st => ∃ (i : Nat), n = a.length - i ∧ i ≤ a.length ∧
    st = ⟨[], [(0, .d (.slc 1 (bytesD a))), (3, .d (.int .i64 (dA (a.take i)))), (4, .d (.int .i64 (dB (a.take i)))), (5, .d (.int .i64 i))], [], 0⟩) _ ⟨0, rfl, by omega, rfl⟩ ?_)
  rintro n st ⟨i, rfl, hi, rfl⟩
  refine W_seq (W_seq (?_))
  apply W_regS
  · intro K hK
    simp
    repeat' (first | with_reducible exact hK | (with_reducible refine goL_split (fun _ => ?_) (fun _ => ?_) <;> simp) | with_reducible refine And.intro ?_ ?_ | with_reducible exact okay_rfl rfl | omega)
  refine W_cond rfl (fun h => W_skip ?_) (fun h => W_exit ?_)
  · simp at h
    have hx := List.getElem?_eq_getElem h
    generalize a[i] = x at hx
    have sA := stepA _ x (dA_lt (a.take i))
    have sB := stepB _ x (dB_lt (a.take i))
    rw [← dA_succ hx] at sA
    rw [← dB_succ hx] at sB
    refine W_seq (W_block (W_seq ?_))
    apply W_regS
    · intro K hK
      simp [hx, sA]
      repeat' (first | with_reducible exact hK | (with_reducible refine goL_split (fun _ => ?_) (fun _ => ?_) <;> simp [hx, sA]) | with_reducible refine And.intro ?_ ?_ | with_reducible exact okay_rfl rfl | omega)
    apply W_regS
    · intro K hK
      simp [hx, sB]
      repeat' (first | with_reducible exact hK | (with_reducible refine goL_split (fun _ => ?_) (fun _ => ?_) <;> simp [hx, sB]) | with_reducible refine And.intro ?_ ?_ | with_reducible exact okay_rfl rfl | omega)
    apply W_regS
    · intro K hK
      simp
      repeat' (first | with_reducible exact hK | (with_reducible refine goL_split (fun _ => ?_) (fun _ => ?_) <;> simp) | with_reducible refine And.intro ?_ ?_ | with_reducible exact okay_rfl rfl | omega)
    exact ⟨a.length - (i + 1), by omega, i + 1, rfl, h, by
      simp [gc, closeN, liveA, gcV, gcO, renA, namesAs, namesA]
      rw [wrap_id (by omega) (by omega)]⟩
  · simp at h
    rw [if_pos rfl]
    refine W_seq (?_)
    apply W_regS
    · intro K hK
      simp [List.take_of_length_le h, digFin]
      repeat' (first | with_reducible exact hK | (with_reducible refine goL_split (fun _ => ?_) (fun _ => ?_) <;> simp [List.take_of_length_le h, digFin]) | with_reducible refine And.intro ?_ ?_ | with_reducible exact okay_rfl rfl | omega)
    refine W_ret ?_
    simp [Fin]
    all_goals omega

theorem digest_ok (a : List UInt8) (ha : a.length ≤ 140737488355328) : Valid PP GG F_I_digest [.d (.slc 1 (bytesD a))] (.d (.int .i64 (digN a))) [none] := by
  refine v_I_digest [.d (.int .i64 (digN a))] rfl rfl ?_
  refine W_seq (?_)
  apply W_regS
  · intro K hK
    simp
    repeat' (first | with_reducible exact hK | (with_reducible refine goL_split (fun _ => ?_) (fun _ => ?_) <;> simp) | with_reducible refine And.intro ?_ ?_ | with_reducible exact okay_rfl rfl | omega)
  refine W_seq (?_)
  apply W_regS
  · intro K hK
    simp
    repeat' (first | with_reducible exact hK | (with_reducible refine goL_split (fun _ => ?_) (fun _ => ?_) <;> simp) | with_reducible refine And.intro ?_ ?_ | with_reducible exact okay_rfl rfl | omega)
  refine W_seq (W_seq (?_))
  apply W_regS
  · intro K hK
    simp
    repeat' (first | with_reducible exact hK | (with_reducible refine goL_split (fun _ => ?_) (fun _ => ?_) <;> simp) | with_reducible refine And.intro ?_ ?_ | with_reducible exact okay_rfl rfl | omega)
  refine W_block (W_loop (fun n st => ∃ (i : Nat), n = a.length - i ∧ i ≤ a.length ∧
    st = ⟨[], [(3, .d (.int .i64 (dA (a.take i)))), (4, .d (.int .i64 (dB (a.take i)))), (7, .d (.slc 1 (bytesD a))), (8, .d (.int .i64 a.length)), (9, .d (.int .i64 i))], [], 0⟩) _ ⟨0, rfl, by omega, rfl⟩ ?_)
  rintro n st ⟨i, rfl, hi, rfl⟩
  refine W_seq (?_)
  apply W_regS
  · intro K hK
    simp
    repeat' (first | with_reducible exact hK | (with_reducible refine goL_split (fun _ => ?_) (fun _ => ?_) <;> simp) | with_reducible refine And.intro ?_ ?_ | with_reducible exact okay_rfl rfl | omega)
  refine W_seq (?_)
  refine W_cond rfl (fun h => W_skip ?_) (fun h => W_exit ?_)
  · simp at h
    have hx := List.getElem?_eq_getElem h
    generalize a[i] = x at hx
    have sA := stepA _ x (dA_lt (a.take i))
    have sB := stepB _ x (dB_lt (a.take i))
    rw [← dA_succ hx] at sA
    rw [← dB_succ hx] at sB
    refine W_seq (W_block (W_seq ?_))
    apply W_regS
    · intro K hK
      simp [hx]
      repeat' (first | with_reducible exact hK | (with_reducible refine goL_split (fun _ => ?_) (fun _ => ?_) <;> simp [hx]) | with_reducible refine And.intro ?_ ?_ | with_reducible exact okay_rfl rfl | omega)
    refine W_seq (?_)
    apply W_regS
    · intro K hK
      simp [hx, sA]
      repeat' (first | with_reducible exact hK | (with_reducible refine goL_split (fun _ => ?_) (fun _ => ?_) <;> simp [hx, sA]) | with_reducible refine And.intro ?_ ?_ | with_reducible exact okay_rfl rfl | omega)
    apply W_regS
    · intro K hK
      simp [hx, sB]
      repeat' (first | with_reducible exact hK | (with_reducible refine goL_split (fun _ => ?_) (fun _ => ?_) <;> simp [hx, sB]) | with_reducible refine And.intro ?_ ?_ | with_reducible exact okay_rfl rfl | omega)
    apply W_regS
    · intro K hK
      simp
      repeat' (first | with_reducible exact hK | (with_reducible refine goL_split (fun _ => ?_) (fun _ => ?_) <;> simp) | with_reducible refine And.intro ?_ ?_ | with_reducible exact okay_rfl rfl | omega)
    exact ⟨a.length - (i + 1), by omega, i + 1, rfl, h, by
      simp [gc, closeN, liveA, gcV, gcO, renA, namesAs, namesA]
      rw [wrap_id (by omega) (by omega)]⟩
  · simp at h
    rw [if_pos rfl]
    refine W_seq (?_)
    apply W_regS
    · intro K hK
      simp [List.take_of_length_le h, digFin]
      repeat' (first | with_reducible exact hK | (with_reducible refine goL_split (fun _ => ?_) (fun _ => ?_) <;> simp [List.take_of_length_le h, digFin]) | with_reducible refine And.intro ?_ ?_ | with_reducible exact okay_rfl rfl | omega)
    refine W_ret ?_
    simp [Fin]
    all_goals omega

end Go.Proofs.YtjdepagpjkoglaaDoor.Ab


set_option linter.unusedSimpArgs false
set_option linter.unusedVariables false
set_option maxRecDepth 100000
namespace Go.Proofs.YtjdepagpjkoglaaDoor.Ab
open Go.Proofs

theorem flat_strs (xs : List (List UInt8)) : (strsD xs).flatten = xs.map D.str := by
  induction xs with
  | nil => rfl
  | cons x xs ih => simp only [strsD, List.map_cons, List.flatten_cons] at ih ⊢; rw [ih]; rfl

theorem Join_ok (xs : List (List UInt8)) (sep : List UInt8) (hN : xs.length ≤ 140737488355328) (hl : (Lib.join xs sep).length ≤ 140737488355328) :
    Valid PP GG 27 [.d (.slc 1 (strsD xs)), .d (.str sep)] (.d (.str (Lib.join xs sep))) [none, none] := by
  refine ⟨⟨Tryd.f27, Tryd.func27, by kernel_rfl, by kernel_rfl⟩, fun w args Fz U hG hFz hRC hap => ?_⟩
  obtain ⟨u, v, rfl, hu, hv⟩ := args_two hRC
  have ho : ∀ (m : Nat) (c : C), ([none, none] : List (Option C))[m]? ≠ some (some c) := by
    intro m c
    match m with
    | 0 => simp
    | 1 => simp
    | m + 2 => simp
  cases hv with | str _ => ?_
  rcases shr_slc_inv hu with ⟨a, cap, rfl, he⟩ | ⟨b, off, cap, vs, rfl, hcap, hc⟩
  · have : xs = [] := by cases xs with | nil => rfl | cons => simp [strsD] at he
    subst this
    refine (Go.Proofs.YtjdepagpjkoglaaDoor.Tryd.strings_Join_none a cap ⟨sep.toArray⟩ w).mono ?_
    rintro e w' ⟨rfl, rfl⟩
    obtain ⟨U', hp⟩ := grown_post (w := w') (w' := w') (Fz := Fz) (args := #[.slice a 0 cap, .string ⟨sep.toArray⟩]) (v := .string ⟨#[]⟩) (r := .d (.str (Lib.join [] sep))) (os := [none, none]) hFz ⟨rfl, rfl⟩ (Nat.le_refl _) (fun _ _ => rfl) (.d _ _ _ (.str []) fun _ _ h => h) ho (fun x y => ∃ i, i < 2 ∧ U i x y)
    exact ⟨_, _, U', rfl, hp⟩
  · by_cases h0 : xs = []
    · subst h0
      refine (Go.Proofs.YtjdepagpjkoglaaDoor.Tryd.strings_Join_none (some (at_ b off)) cap ⟨sep.toArray⟩ w).mono ?_
      rintro e w' ⟨rfl, rfl⟩
      obtain ⟨U', hp⟩ := grown_post (w := w') (w' := w') (Fz := Fz) (args := #[.slice (some (at_ b off)) 0 cap, .string ⟨sep.toArray⟩]) (v := .string ⟨#[]⟩) (r := .d (.str (Lib.join [] sep))) (os := [none, none]) hFz ⟨rfl, rfl⟩ (Nat.le_refl _) (fun _ _ => rfl) (.d _ _ _ (.str []) fun _ _ h => h) ho (fun x y => ∃ i, i < 2 ∧ U i x y)
      exact ⟨_, _, U', rfl, hp⟩
    · rw [flat_strs] at hc
      have hcell : ∀ (j : Nat) (x : ByteArray), (xs.map fun s => (⟨s.toArray⟩ : ByteArray))[j]? = some x → w.cell? ⟨b, off + j, none⟩ = some (.string x) := by
        intro j x hj
        rw [List.getElem?_map] at hj
        cases hx : xs[j]? with
        | none => rw [hx] at hj; cases hj
        | some s =>
          rw [hx] at hj
          cases hj
          obtain ⟨c1, c2⟩ := hc j (.str s) (by rw [List.getElem?_map, hx]; rfl)
          generalize vs j = vj at c1 c2
          cases c2
          exact c1
      have hbk : b < w.heap.size := by
        cases xs with
        | nil => exact absurd rfl h0
        | cons x r => exact cell_lt (hc 0 (.str x) rfl).1
      have hm : (xs.map fun s => (⟨s.toArray⟩ : ByteArray)).map (·.data.toList) = xs := by
        rw [List.map_map]
        exact List.map_id'' (fun _ => rfl) xs
      have key := Go.Proofs.YtjdepagpjkoglaaDoor.Tryd.strings_Join b off cap (xs.map fun s => (⟨s.toArray⟩ : ByteArray)) ⟨sep.toArray⟩ w hcell hbk (by simpa using hN) (by simpa using hcap) (by rw [hm]; exact hl)
      rw [hm, List.length_map] at key
      rw [strsD_len]
      refine key.mono ?_
      rintro e w' ⟨rfl, hb⟩
      obtain ⟨U', hp⟩ := grown_post (w := w) (w' := w') (Fz := Fz) (args := #[.slice (some (at_ b off)) xs.length cap, .string ⟨sep.toArray⟩]) (v := .string ⟨(Lib.join xs sep).toArray⟩) (r := .d (.str (Lib.join xs sep))) (os := [none, none]) hFz ⟨hb.os, hb.output⟩ hb.size hb.block (.d _ _ _ (.str _) fun _ _ h => h) ho (fun x y => ∃ i, i < 2 ∧ U i x y)
      exact ⟨_, _, U', rfl, hp⟩

def sumT (x s a w : Int) (t p : List UInt8) (c : Int) : List UInt8 := Lib.itoa x ++ [10] ++ Lib.itoa s ++ [10] ++ Lib.itoa a ++ [10] ++ Lib.itoa w ++ [10] ++ t ++ [10] ++ p ++ [10] ++ Lib.itoa c

theorem sumT_join (x s a w : Int) (t p : List UInt8) (c : Int) : Lib.join [Lib.itoa x, Lib.itoa s, Lib.itoa a, Lib.itoa w, t, p, Lib.itoa c] [10] = sumT x s a w t p c := by
  rw [Lib.join_cons]
  simp [Lib.joinTail, sumT]

theorem itoa_len {x : Int} (h : int64 x) : (Lib.itoa x).length ≤ 21 := Lib.itoa_length_le x h.1 h.2

theorem s_SumOf_ok (x s a w : Int) (t p : List UInt8) (c m : Int) (hx : int64 x) (hs : int64 s) (ha : int64 a) (hw : int64 w) (hc : int64 c) (h1 : t.length ≤ 1048576) (h2 : p.length ≤ 1048576) :
    Valid PP GG F_S_SumOf [.d (.int .i64 x), .agg (noteC s a w t p c m)] (.d (.int .i64 (digN (sumT x s a w t p c)))) [none, none] := by
  refine v_S_SumOf [.d (.int .i64 (digN (sumT x s a w t p c)))] rfl rfl ?_
  have l0 := itoa_len hx
  have l1 := itoa_len hs
  have l2 := itoa_len ha
  have l3 := itoa_len hw
  have l4 := itoa_len hc
  refine W_seq (?_)
  apply W_regS
  · intro K hK
    simp
    repeat' (first | with_reducible exact hK | (with_reducible refine goL_split (fun _ => ?_) (fun _ => ?_) <;> simp) | with_reducible refine And.intro ?_ ?_ | with_reducible exact okay_rfl rfl | omega)
  refine W_seq (?_)
  apply W_regD
  · intro K hK
    simp [maxStr]
    repeat' (first | with_reducible exact hK | (with_reducible refine callQ (l01Num_ok x hx) ?_; simp [maxStr]) | (with_reducible refine callQ (l01Num_ok s hs) ?_; simp [maxStr]) | (with_reducible refine callQ (l01Num_ok a ha) ?_; simp [maxStr]) | (with_reducible refine callQ (l01Num_ok w hw) ?_; simp [maxStr]) | (with_reducible refine callQ (l01Num_ok c hc) ?_; simp [maxStr]) | (with_reducible refine goL_split (fun _ => ?_) (fun _ => ?_) <;> simp [maxStr]) | with_reducible refine And.intro ?_ ?_ | with_reducible exact okay_rfl rfl | omega)
  have hl : (sumT x s a w t p c).length ≤ 140737488355328 := by unfold sumT; simp; omega
  have e : Lib.itoa x ++ 10 :: (Lib.itoa s ++ 10 :: (Lib.itoa a ++ 10 :: (Lib.itoa w ++ 10 :: (t ++ 10 :: (p ++ 10 :: Lib.itoa c))))) = sumT x s a w t p c := by simp [sumT]
  refine W_seq (?_)
  apply W_regS
  · intro K hK
    simp [e]
    repeat' (first | with_reducible exact hK | (with_reducible refine callQ (Digest_ok (sumT x s a w t p c) hl) ?_; simp [e]) | (with_reducible refine goL_split (fun _ => ?_) (fun _ => ?_) <;> simp [e]) | with_reducible refine And.intro ?_ ?_ | with_reducible exact okay_rfl rfl | omega)
  refine W_ret ?_
  simp [Fin]
  all_goals omega

theorem i_sumOf_ok (x s a w : Int) (t p : List UInt8) (c m : Int) (hx : int64 x) (hs : int64 s) (ha : int64 a) (hw : int64 w) (hc : int64 c) (h1 : t.length ≤ 1048576) (h2 : p.length ≤ 1048576) :
    Valid PP GG F_I_sumOf [.d (.int .i64 x), .agg (noteC s a w t p c m)] (.d (.int .i64 (digN (sumT x s a w t p c)))) [none, none] := by
  refine v_I_sumOf [.d (.int .i64 (digN (sumT x s a w t p c)))] rfl rfl ?_
  have l0 := itoa_len hx
  have l1 := itoa_len hs
  have l2 := itoa_len ha
  have l3 := itoa_len hw
  have l4 := itoa_len hc
  have hl : (sumT x s a w t p c).length ≤ 140737488355328 := by unfold sumT; simp; omega
  have hj := Join_ok [Lib.itoa x, Lib.itoa s, Lib.itoa a, Lib.itoa w, t, p, Lib.itoa c] [10] (by simp) (by rw [sumT_join]; exact hl)
  rw [sumT_join] at hj
  simp only [strsD, List.map] at hj
  refine W_seq (?_)
  apply W_regS
  · intro K hK
    simp
    repeat' (first | with_reducible exact hK | (with_reducible refine goL_split (fun _ => ?_) (fun _ => ?_) <;> simp) | with_reducible refine And.intro ?_ ?_ | with_reducible exact okay_rfl rfl | omega)
  refine W_seq (?_)
  apply W_regD
  · intro K hK
    simp [litA]
    repeat' (first | with_reducible exact hK | (with_reducible refine callQ (Itoa_ok x hx) ?_; simp [litA]) | (with_reducible refine callQ (Itoa_ok s hs) ?_; simp [litA]) | (with_reducible refine callQ (Itoa_ok a ha) ?_; simp [litA]) | (with_reducible refine callQ (Itoa_ok w hw) ?_; simp [litA]) | (with_reducible refine callQ (Itoa_ok c hc) ?_; simp [litA]) | (with_reducible refine goL_split (fun _ => ?_) (fun _ => ?_) <;> simp [litA]) | with_reducible refine And.intro ?_ ?_ | with_reducible exact okay_rfl rfl | omega)
  refine W_seq (?_)
  apply W_regS
  · intro K hK
    simp
    repeat' (first | with_reducible exact hK | (with_reducible refine callQ (hj) ?_; simp) | (with_reducible refine callQ (digest_ok (sumT x s a w t p c) hl) ?_; simp) | (with_reducible refine goL_split (fun _ => ?_) (fun _ => ?_) <;> simp) | with_reducible refine And.intro ?_ ?_ | with_reducible exact okay_rfl rfl | omega)
  refine W_ret ?_
  simp [Fin]
  all_goals omega

theorem i_SumOf_ok (x s a w : Int) (t p : List UInt8) (c m : Int) (hx : int64 x) (hs : int64 s) (ha : int64 a) (hw : int64 w) (hc : int64 c) (h1 : t.length ≤ 1048576) (h2 : p.length ≤ 1048576) :
    Valid PP GG F_I_SumOf [.d (.int .i64 x), .agg (noteC s a w t p c m)] (.d (.int .i64 (digN (sumT x s a w t p c)))) [none, none] := by
  refine v_I_SumOf [.d (.int .i64 (digN (sumT x s a w t p c)))] rfl rfl ?_
  refine W_seq (?_)
  apply W_regS
  · intro K hK
    simp
    repeat' (first | with_reducible exact hK | (with_reducible refine goL_split (fun _ => ?_) (fun _ => ?_) <;> simp) | with_reducible refine And.intro ?_ ?_ | with_reducible exact okay_rfl rfl | omega)
  refine W_seq (?_)
  apply W_regS
  · intro K hK
    simp
    repeat' (first | with_reducible exact hK | (with_reducible refine callQ (i_sumOf_ok x s a w t p c m hx hs ha hw hc h1 h2) ?_; simp) | (with_reducible refine goL_split (fun _ => ?_) (fun _ => ?_) <;> simp) | with_reducible refine And.intro ?_ ?_ | with_reducible exact okay_rfl rfl | omega)
  refine W_ret ?_
  simp [Fin]
  all_goals omega

theorem law_SumOf (x s a w : Int) (t p : List UInt8) (c m : Int) (hx : int64 x) (hs : int64 s) (ha : int64 a) (hw : int64 w) (hc : int64 c) (h1 : t.length ≤ maxLen) (h2 : p.length ≤ maxLen) :
    Valid PP GG F_L_FnExactSumOf [.d (.int .i64 x), .agg (noteC s a w t p c m)] (.d (.bool true)) [none, none] := by
  refine v_L_FnExactSumOf [.d (.bool true)] rfl rfl ?_
  refine W_seq (?_)
  apply W_regS
  · intro K hK
    simp
    repeat' (first | with_reducible exact hK | (with_reducible refine goL_split (fun _ => ?_) (fun _ => ?_) <;> simp) | with_reducible refine And.intro ?_ ?_ | with_reducible exact okay_rfl rfl | omega)
  refine W_seq (?_)
  apply W_regS
  · intro K hK
    simp
    repeat' (first | with_reducible exact hK | (with_reducible refine goL_split (fun _ => ?_) (fun _ => ?_) <;> simp) | with_reducible refine And.intro ?_ ?_ | with_reducible exact okay_rfl rfl | omega)
  refine W_seq (?_)
  apply W_regS
  · intro K hK
    simp
    repeat' (first | with_reducible exact hK | (with_reducible refine callQ (szNote_ok s a w t p c m 1048576 (by omega) h1 h2) ?_; simp) | (with_reducible refine goL_split (fun _ => ?_) (fun _ => ?_) <;> simp) | with_reducible refine And.intro ?_ ?_ | with_reducible exact okay_rfl rfl | omega)
  refine W_seq (W_seq (?_))
  apply W_regS
  · intro K hK
    simp
    repeat' (first | with_reducible exact hK | (with_reducible refine goL_split (fun _ => ?_) (fun _ => ?_) <;> simp) | with_reducible refine And.intro ?_ ?_ | with_reducible exact okay_rfl rfl | omega)
  refine W_cond rfl (fun h => W_seq ?_) (fun h => W_skip ?_)
  · apply W_regS
    · intro K hK
      simp
      repeat' (first | with_reducible exact hK | (with_reducible refine goL_split (fun _ => ?_) (fun _ => ?_) <;> simp) | with_reducible refine And.intro ?_ ?_ | with_reducible exact okay_rfl rfl | omega)
    refine W_ret ?_
    simp [Fin]
    all_goals omega
  simp at h
  have hb : t.length ≤ 1048576 ∧ p.length ≤ 1048576 := by
    unfold szNo at h
    split at h
    · omega
    · split at h <;> omega
  refine W_seq (?_)
  apply W_regS
  · intro K hK
    simp
    repeat' (first | with_reducible exact hK | (with_reducible refine callQ (toNote_ok s a w t p c m) ?_; simp) | (with_reducible refine callQ (s_SumOf_ok x s a w t p c m hx hs ha hw hc hb.1 hb.2) ?_; simp) | (with_reducible refine goL_split (fun _ => ?_) (fun _ => ?_) <;> simp) | with_reducible refine And.intro ?_ ?_ | with_reducible exact okay_rfl rfl | omega)
  refine W_seq (?_)
  apply W_regS
  · intro K hK
    simp
    repeat' (first | with_reducible exact hK | (with_reducible refine callQ (toNote_ok s a w t p c m) ?_; simp) | (with_reducible refine callQ (i_SumOf_ok x s a w t p c m hx hs ha hw hc hb.1 hb.2) ?_; simp) | (with_reducible refine goL_split (fun _ => ?_) (fun _ => ?_) <;> simp) | with_reducible refine And.intro ?_ ?_ | with_reducible exact okay_rfl rfl | omega)
  refine W_seq (W_seq (?_))
  apply W_regS
  · intro K hK
    simp
    repeat' (first | with_reducible exact hK | (with_reducible refine goL_split (fun _ => ?_) (fun _ => ?_) <;> simp) | with_reducible refine And.intro ?_ ?_ | with_reducible exact okay_rfl rfl | omega)
  refine W_cond rfl (fun h => W_seq ?_) (fun h => W_skip ?_)
  · simp at h
  refine W_seq (?_)
  apply W_regS
  · intro K hK
    simp
    repeat' (first | with_reducible exact hK | (with_reducible refine goL_split (fun _ => ?_) (fun _ => ?_) <;> simp) | with_reducible refine And.intro ?_ ?_ | with_reducible exact okay_rfl rfl | omega)
  refine W_ret ?_
  simp [Fin]
  all_goals omega

end Go.Proofs.YtjdepagpjkoglaaDoor.Ab


set_option linter.unusedSimpArgs false
set_option linter.unusedVariables false
set_option maxRecDepth 100000
namespace Go.Proofs.YtjdepagpjkoglaaDoor.Ab
open Go.Proofs

theorem take_succ_eq {α : Type} {a b : List α} {i : Nat} {x : α} (h : a.take i = b.take i) (ha : a[i]? = some x) (hb : b[i]? = some x) : a.take (i + 1) = b.take (i + 1) := by
  rw [List.take_add_one, List.take_add_one, h, ha, hb]

theorem row_one {R : List (List D)} {i : Nat} (h : ∀ r, r ∈ R → r.length = 1) (hi : i < R.length) : ∃ d, R[i]? = some [d] := by
  have := h _ (List.getElem_mem hi)
  rw [List.length_eq_one_iff] at this
  obtain ⟨d, hd⟩ := this
  exact ⟨d, by rw [List.getElem?_eq_getElem hi, hd]⟩

theorem set_one {R : List (List D)} {i : Nat} {d : D} (h : ∀ r, r ∈ R → r.length = 1) : ∀ r, r ∈ R.set i [d] → r.length = 1 := by
  intro r hr
  rcases List.mem_or_eq_of_mem_set hr with h1 | h1
  · exact h r h1
  · subst h1; rfl

theorem take_set_succ {R : List (List D)} {i : Nat} {r : List D} (hi : i < R.length) : (R.set i r).take (i + 1) = R.take i ++ [r] := by
  rw [List.take_add_one, List.take_set_of_le (Nat.le_refl _)]
  simp [hi]

/-- The hexadecimal digits. -/
def hexDigit (n : Nat) : UInt8 := ([48, 49, 50, 51, 52, 53, 54, 55, 56, 57, 97, 98, 99, 100, 101, 102] : List UInt8).getD n 0

def hexOf (a : List UInt8) : List UInt8 := a.flatMap fun x => [hexDigit (x.toNat / 16), hexDigit (x.toNat % 16)]

theorem hex_succ {a : List UInt8} {i : Nat} {x : UInt8} (ha : a[i]? = some x) : hexOf (a.take (i + 1)) = hexOf (a.take i) ++ [hexDigit (x.toNat / 16), hexDigit (x.toNat % 16)] := by
  rw [List.take_add_one, ha]; simp [hexOf]

theorem hex_len (a : List UInt8) : (hexOf a).length = 2 * a.length := by
  induction a with
  | nil => rfl
  | cons x a ih => simp [hexOf] at ih ⊢; omega

theorem u8_hi (x : UInt8) : (x.toNat : Int).fdiv 16 = ((x.toNat / 16 : Nat) : Int) := by
  rw [Int.fdiv_eq_ediv_of_nonneg _ (by omega)]; rfl

theorem u8_quo (x : UInt8) : IntKind.u8.wrap ((x.toNat : Int).tdiv 16) = ((x.toNat / 16 : Nat) : Int) := by
  have h : (x.toNat : Int).tdiv 16 = ((x.toNat / 16 : Nat) : Int) := rfl
  have := x.toNat_lt
  rw [h, IntKind.wrap_u8]; omega

theorem u8_rem (x : UInt8) : (x.toNat : Int).tmod 16 = ((x.toNat % 16 : Nat) : Int) := rfl

theorem u8_lo (x : UInt8) : IntKind.u8.wrap ((x.toBitVec &&& 15#8).toNat : Int) = ((x.toNat % 16 : Nat) : Int) := by
  have h : (x.toBitVec &&& 15#8).toNat = x.toNat % 16 := by
    rw [BitVec.toNat_and]
    exact Nat.and_two_pow_sub_one_eq_mod x.toNat 4
  have := x.toNat_lt
  rw [h, IntKind.wrap_u8]; omega

theorem bytes_app2 (s : List UInt8) (u v : UInt8) : bytesD (s ++ [u, v]) = bytesD s ++ [[D.int .u8 u.toNat], [D.int .u8 v.toNat]] := by simp [bytesD]

theorem hexText_ok (a : List UInt8) (hsz : a.length ≤ 2000000) : Valid PP GG F_I_hexText [.d (.slc 1 (bytesD a))] (.d (.str (hexOf a))) [none] := by
  refine v_I_hexText [.d (.str (hexOf a))] rfl rfl ?_
  refine W_seq (?_)
  apply W_regS
  · intro K hK
    simp
    repeat' (first | with_reducible exact hK | (with_reducible refine goL_split (fun _ => ?_) (fun _ => ?_) <;> simp) | with_reducible refine And.intro ?_ ?_ | with_reducible exact okay_rfl rfl | omega)
  refine W_seq (?_)
  have hw : IntKind.i64.wrap (2 * (a.length : Int)) = 2 * a.length := wrap_id (by omega) (by omega)
  apply W_regS
  · intro K hK
    simp [mkA, limit, hw]
    repeat' (first | with_reducible exact hK | (with_reducible refine goL_split (fun _ => ?_) (fun _ => ?_) <;> simp [mkA, limit, hw]) | with_reducible refine And.intro ?_ ?_ | with_reducible exact okay_rfl rfl | omega)
  refine W_seq (W_seq (?_))
  apply W_regS
  · intro K hK
    simp
    repeat' (first | with_reducible exact hK | (with_reducible refine goL_split (fun _ => ?_) (fun _ => ?_) <;> simp) | with_reducible refine And.intro ?_ ?_ | with_reducible exact okay_rfl rfl | omega)
  refine W_block (W_loop (fun n st => ∃ (i : Nat), n = a.length - i ∧ i ≤ a.length ∧
    st = ⟨[], [(3, .sl 0), (10, .d (.slc 1 (bytesD a))), (11, .d (.int .i64 a.length)), (12, .d (.int .i64 i))], [(0, .arr 0 0 1 (bytesD (hexOf (a.take i))))], 1⟩) _ ⟨0, rfl, by omega, rfl⟩ ?_)
  rintro n st ⟨i, rfl, hi, rfl⟩
  refine W_seq (?_)
  apply W_regS
  · intro K hK
    simp
    repeat' (first | with_reducible exact hK | (with_reducible refine goL_split (fun _ => ?_) (fun _ => ?_) <;> simp) | with_reducible refine And.intro ?_ ?_ | with_reducible exact okay_rfl rfl | omega)
  refine W_seq (?_)
  refine W_cond rfl (fun h => W_skip ?_) (fun h => W_exit ?_)
  · simp at h
    have ha := List.getElem?_eq_getElem h
    generalize a[i] = x at ha
    refine W_seq (W_block (W_seq ?_))
    apply W_regS
    · intro K hK
      simp [ha]
      repeat' (first | with_reducible exact hK | (with_reducible refine goL_split (fun _ => ?_) (fun _ => ?_) <;> simp [ha]) | with_reducible refine And.intro ?_ ?_ | with_reducible exact okay_rfl rfl | omega)
    have hl := hex_len (a.take i)
    have hl2 : (a.take i).length ≤ a.length := by simp; omega
    have hx := x.toNat_lt
    obtain ⟨q, hq⟩ : ∃ q : Nat, q = x.toNat / 16 := ⟨_, rfl⟩
    obtain ⟨r, hr⟩ : ∃ r : Nat, r = x.toNat % 16 := ⟨_, rfl⟩
    have h1 := u8_hi x
    have h2 := u8_lo x
    rw [← hq] at h1
    rw [← hr] at h2
    simp at h2
    apply W_regD
    · intro K hK
      simp [h1, h2, limit]
      repeat' (first | with_reducible exact hK | (with_reducible refine goL_split (fun _ => ?_) (fun _ => ?_) <;> simp [h1, h2, limit]) | with_reducible refine And.intro ?_ ?_ | with_reducible exact okay_rfl rfl | omega)
    apply W_regS
    · intro K hK
      simp
      repeat' (first | with_reducible exact hK | (with_reducible refine goL_split (fun _ => ?_) (fun _ => ?_) <;> simp) | with_reducible refine And.intro ?_ ?_ | with_reducible exact okay_rfl rfl | omega)
    exact ⟨a.length - (i + 1), by omega, i + 1, rfl, h, by
      simp [gc, closeN, liveA, gcV, gcO, renA, renO, namesAs, namesA, namesO, posn, hex_succ ha, bytes_app2, hexDigit, ← hq, ← hr]
      rw [wrap_id (by omega) (by omega)]⟩
  · simp at h
    rw [if_pos rfl]
    refine W_seq (?_)
    apply W_regS
    · intro K hK
      simp [strOf_bytesD, List.take_of_length_le h]
      repeat' (first | with_reducible exact hK | (with_reducible refine goL_split (fun _ => ?_) (fun _ => ?_) <;> simp [strOf_bytesD, List.take_of_length_le h]) | with_reducible refine And.intro ?_ ?_ | with_reducible exact okay_rfl rfl | omega)
    refine W_ret ?_
    simp [Fin]
    all_goals omega

theorem eqStringS_ok (a b : List (List UInt8)) (hsz : a.length ≤ 281474976710656) : Valid PP GG F_L_eqStringS [.d (.slc 1 (strsD a)), .d (.slc 1 (strsD b))] (.d (.bool (a == b))) [none, none] := by
  refine v_L_eqStringS [.d (.bool (a == b))] rfl rfl ?_
  refine W_seq (?_)
  apply W_regS
  · intro K hK
    simp
    repeat' (first | with_reducible exact hK | (with_reducible refine goL_split (fun _ => ?_) (fun _ => ?_) <;> simp) | with_reducible refine And.intro ?_ ?_ | with_reducible exact okay_rfl rfl | omega)
  refine W_seq (W_seq (?_))
  apply W_regS
  · intro K hK
    simp
    repeat' (first | with_reducible exact hK | (with_reducible refine goL_split (fun _ => ?_) (fun _ => ?_) <;> simp) | with_reducible refine And.intro ?_ ?_ | with_reducible exact okay_rfl rfl | omega)
  refine W_cond rfl (fun h => W_seq ?_) (fun hlen => W_skip ?_)
  · apply W_regS
    · intro K hK
      simp
      repeat' (first | with_reducible exact hK | (with_reducible refine goL_split (fun _ => ?_) (fun _ => ?_) <;> simp) | with_reducible refine And.intro ?_ ?_ | with_reducible exact okay_rfl rfl | omega)
    have : (a == b) = false := by simp at h ⊢; intro e; subst e; exact h rfl
    refine W_ret ?_
    simp [Fin, this]
    all_goals omega
  refine W_seq (W_seq (?_))
  simp at hlen
  apply W_regS
  · intro K hK
    simp
    repeat' (first | with_reducible exact hK | (with_reducible refine goL_split (fun _ => ?_) (fun _ => ?_) <;> simp) | with_reducible refine And.intro ?_ ?_ | with_reducible exact okay_rfl rfl | omega)
  refine W_block (W_loop (fun n st => ∃ i : Nat, n = a.length - i ∧ i ≤ a.length ∧ a.take i = b.take i ∧ st = ⟨[], [(0, .d (.slc 1 (strsD a))), (1, .d (.slc 1 (strsD b))), (5, .d (.int .i64 i))], [], 0⟩) _ ⟨0, rfl, by omega, rfl, rfl⟩ ?_)
  rintro n st ⟨i, rfl, hi, he, rfl⟩
  refine W_seq (W_seq (?_))
  apply W_regS
  · intro K hK
    simp
    repeat' (first | with_reducible exact hK | (with_reducible refine goL_split (fun _ => ?_) (fun _ => ?_) <;> simp) | with_reducible refine And.intro ?_ ?_ | with_reducible exact okay_rfl rfl | omega)
  refine W_cond rfl (fun h => W_skip ?_) (fun h => W_exit ?_)
  · simp at h
    have ha := List.getElem?_eq_getElem h
    have hb := List.getElem?_eq_getElem (show i < b.length by omega)
    generalize a[i] = x at ha
    generalize b[i]'_ = y at hb
    refine W_seq (W_block (W_seq ?_))
    apply W_regD
    · intro K hK
      simp [ha, hb]
      repeat' (first | with_reducible exact hK | (with_reducible refine goL_split (fun _ => ?_) (fun _ => ?_) <;> simp [ha, hb]) | with_reducible refine And.intro ?_ ?_ | with_reducible exact okay_rfl rfl | omega)
    refine W_cond rfl (fun h2 => W_seq ?_) (fun h2 => W_skip ?_)
    · apply W_regS
      · intro K hK
        simp
        repeat' (first | with_reducible exact hK | (with_reducible refine goL_split (fun _ => ?_) (fun _ => ?_) <;> simp) | with_reducible refine And.intro ?_ ?_ | with_reducible exact okay_rfl rfl | omega)
      have : (a == b) = false := by simp; intro e; subst e; simp [ha] at hb; subst hb; simp at h2
      refine W_ret ?_
      simp [Fin, this]
      all_goals omega
    apply W_regS
    · intro K hK
      simp
      repeat' (first | with_reducible exact hK | (with_reducible refine goL_split (fun _ => ?_) (fun _ => ?_) <;> simp) | with_reducible refine And.intro ?_ ?_ | with_reducible exact okay_rfl rfl | omega)
    have hxy : x = y := by simpa using h2
    subst hxy
    exact ⟨a.length - (i + 1), by omega, i + 1, rfl, h, take_succ_eq he ha hb, by simp [gc, closeN, liveA, gcV, gcO, renA, namesAs, namesA]; rw [wrap_id (by omega) (by omega)]⟩
  · simp at h
    rw [if_pos rfl]
    refine W_seq (?_)
    apply W_regS
    · intro K hK
      simp
      repeat' (first | with_reducible exact hK | (with_reducible refine goL_split (fun _ => ?_) (fun _ => ?_) <;> simp) | with_reducible refine And.intro ?_ ?_ | with_reducible exact okay_rfl rfl | omega)
    have : (a == b) = true := by
      simp
      rwa [List.take_of_length_le h, List.take_of_length_le (by omega)] at he
    refine W_ret ?_
    simp [Fin, this]
    all_goals omega

theorem strsD_succ {a : List (List UInt8)} {i : Nat} {x : (List UInt8)} (ha : a[i]? = some x) : strsD (a.take (i + 1)) = strsD (a.take i) ++ [[.str x]] := by
  rw [List.take_add_one, ha]; simp [strsD]

theorem toStringS_ok (a : List (List UInt8)) (hsz : a.length * 16 ≤ 140737488355328) : Valid PP GG F_L_toStringS [.d (.slc 1 (strsD a))] (.own 0 1 (strsD a)) [none] := by
  refine v_L_toStringS [.own 0 1 (strsD a)] rfl rfl ?_
  refine W_seq (?_)
  apply W_regS
  · intro K hK
    simp
    repeat' (first | with_reducible exact hK | (with_reducible refine goL_split (fun _ => ?_) (fun _ => ?_) <;> simp) | with_reducible refine And.intro ?_ ?_ | with_reducible exact okay_rfl rfl | omega)
  refine W_seq (?_)
  apply W_regS
  · intro K hK
    simp [mkA, limit]
    repeat' (first | with_reducible exact hK | (with_reducible refine goL_split (fun _ => ?_) (fun _ => ?_) <;> simp [mkA, limit]) | with_reducible refine And.intro ?_ ?_ | with_reducible exact okay_rfl rfl | omega)
  refine W_seq (W_seq (?_))
  apply W_regS
  · intro K hK
    simp
    repeat' (first | with_reducible exact hK | (with_reducible refine goL_split (fun _ => ?_) (fun _ => ?_) <;> simp) | with_reducible refine And.intro ?_ ?_ | with_reducible exact okay_rfl rfl | omega)
  refine W_block (W_loop (fun n st => ∃ (i : Nat) (R : List (List D)), n = a.length - i ∧ i ≤ a.length ∧ R.length = a.length ∧ (∀ r, r ∈ R → r.length = 1) ∧ R.take i = strsD (a.take i) ∧
    st = ⟨[], [(0, .d (.slc 1 (strsD a))), (3, .sl 0), (4, .d (.int .i64 i))], [(0, .arr 0 0 1 R)], 1⟩) _ ⟨0, List.replicate a.length [.str []], rfl, by omega, by simp, by simp, rfl, rfl⟩ ?_)
  rintro n st ⟨i, R, rfl, hi, hl, h1, hR, rfl⟩
  refine W_seq (W_seq (?_))
  apply W_regS
  · intro K hK
    simp
    repeat' (first | with_reducible exact hK | (with_reducible refine goL_split (fun _ => ?_) (fun _ => ?_) <;> simp) | with_reducible refine And.intro ?_ ?_ | with_reducible exact okay_rfl rfl | omega)
  refine W_cond rfl (fun h => W_skip ?_) (fun h => W_exit ?_)
  · simp at h
    have ha := List.getElem?_eq_getElem h
    generalize a[i] = x at ha
    obtain ⟨d, hd⟩ := row_one h1 (show i < R.length by omega)
    refine W_seq (W_block ?_)
    apply W_regS
    · intro K hK
      simp [ha, hd, hl]
      repeat' (first | with_reducible exact hK | (with_reducible refine goL_split (fun _ => ?_) (fun _ => ?_) <;> simp [ha, hd, hl]) | with_reducible refine And.intro ?_ ?_ | with_reducible exact okay_rfl rfl | omega)
    apply W_regS
    · intro K hK
      simp
      repeat' (first | with_reducible exact hK | (with_reducible refine goL_split (fun _ => ?_) (fun _ => ?_) <;> simp) | with_reducible refine And.intro ?_ ?_ | with_reducible exact okay_rfl rfl | omega)
    exact ⟨a.length - (i + 1), by omega, i + 1, R.set i [.str x], rfl, h, by simpa using hl, set_one h1, by rw [take_set_succ (by omega), hR, strsD_succ ha],
      by simp [gc, closeN, liveA, gcV, gcO, renA, renO, namesAs, namesA, namesO, posn]; rw [wrap_id (by omega) (by omega)]⟩
  · simp at h
    have e : R = strsD a := by rwa [List.take_of_length_le (by omega), List.take_of_length_le (by omega)] at hR
    subst e
    rw [if_pos rfl]
    refine W_seq (?_)
    apply W_regS
    · intro K hK
      simp
      repeat' (first | with_reducible exact hK | (with_reducible refine goL_split (fun _ => ?_) (fun _ => ?_) <;> simp) | with_reducible refine And.intro ?_ ?_ | with_reducible exact okay_rfl rfl | omega)
    refine W_ret ?_
    simp [Fin]
    all_goals omega

def szTs : List (List UInt8) → Int → Int
  | [], l => l
  | s :: r, l => if l - s.length < 0 then -1 else szTs r (l - s.length)

def szT (a : List (List UInt8)) (l : Int) : Int := if l - a.length < 0 then -1 else szTs a (l - a.length)

theorem szStringS_ok (a : List (List UInt8)) (l : Int) (h1 : a.length ≤ maxLen) (h2 : 0 ≤ l ∧ l ≤ 1048576) (h3 : ∀ s, s ∈ a → s.length ≤ maxLen) : Valid PP GG F_L_szStringS [.d (.slc 1 (strsD a)), .d (.int .i64 l)] (.d (.int .i64 (szT a l))) [none, none] := by
  refine v_L_szStringS [.d (.int .i64 (szT a l))] rfl rfl ?_
  unfold maxLen at h1 h3
  have hw : IntKind.i64.wrap (l - a.length) = l - a.length := wrap_id (by omega) (by omega)
  refine W_seq (?_)
  apply W_regS
  · intro K hK
    simp
    repeat' (first | with_reducible exact hK | (with_reducible refine goL_split (fun _ => ?_) (fun _ => ?_) <;> simp) | with_reducible refine And.intro ?_ ?_ | with_reducible exact okay_rfl rfl | omega)
  refine W_seq (?_)
  apply W_regS
  · intro K hK
    simp [hw]
    repeat' (first | with_reducible exact hK | (with_reducible refine goL_split (fun _ => ?_) (fun _ => ?_) <;> simp [hw]) | with_reducible refine And.intro ?_ ?_ | with_reducible exact okay_rfl rfl | omega)
  refine W_seq (W_seq (?_))
  apply W_regS
  · intro K hK
    simp
    repeat' (first | with_reducible exact hK | (with_reducible refine goL_split (fun _ => ?_) (fun _ => ?_) <;> simp) | with_reducible refine And.intro ?_ ?_ | with_reducible exact okay_rfl rfl | omega)
  refine W_cond rfl (fun h => W_seq ?_) (fun h => W_skip ?_)
  · apply W_regS
    · intro K hK
      simp
      repeat' (first | with_reducible exact hK | (with_reducible refine goL_split (fun _ => ?_) (fun _ => ?_) <;> simp) | with_reducible refine And.intro ?_ ?_ | with_reducible exact okay_rfl rfl | omega)
    simp at h
    have : szT a l = -1 := by unfold szT; rw [if_pos h]
    refine W_ret ?_
    simp [Fin, this]
    all_goals omega
  simp at h
  have e0 : szT a l = szTs a (l - a.length) := by unfold szT; rw [if_neg (by omega)]
  rw [e0]
  refine W_seq (W_seq (?_))
  apply W_regS
  · intro K hK
    simp
    repeat' (first | with_reducible exact hK | (with_reducible refine goL_split (fun _ => ?_) (fun _ => ?_) <;> simp) | with_reducible refine And.intro ?_ ?_ | with_reducible exact okay_rfl rfl | omega)
  refine W_block (W_loop (fun n st => ∃ (i : Nat) (m : Int), n = a.length - i ∧ i ≤ a.length ∧ 0 ≤ m ∧ m ≤ 1048576 ∧ szTs (a.drop i) m = szTs a (l - a.length) ∧
    st = ⟨[], [(0, .d (.slc 1 (strsD a))), (1, .d (.int .i64 m)), (5, .d (.int .i64 i))], [], 0⟩) _ ⟨0, _, rfl, by omega, by omega, by omega, by simp, rfl⟩ ?_)
  rintro n st ⟨i, m, rfl, hi, hm1, hm2, he, rfl⟩
  refine W_seq (W_seq (?_))
  apply W_regS
  · intro K hK
    simp
    repeat' (first | with_reducible exact hK | (with_reducible refine goL_split (fun _ => ?_) (fun _ => ?_) <;> simp) | with_reducible refine And.intro ?_ ?_ | with_reducible exact okay_rfl rfl | omega)
  refine W_cond rfl (fun h => W_skip ?_) (fun h => W_exit ?_)
  · simp at h
    have ha := List.getElem?_eq_getElem h
    have hm := List.getElem_mem h
    have hd := List.drop_eq_getElem_cons h
    generalize a[i] = x at ha hm hd
    have hx := h3 x hm
    have hw2 : IntKind.i64.wrap (m - x.length) = m - x.length := wrap_id (by omega) (by omega)
    rw [hd] at he
    simp only [szTs] at he
    refine W_seq (W_block (W_seq ?_))
    apply W_regS
    · intro K hK
      simp [ha, hw2]
      repeat' (first | with_reducible exact hK | (with_reducible refine goL_split (fun _ => ?_) (fun _ => ?_) <;> simp [ha, hw2]) | with_reducible refine And.intro ?_ ?_ | with_reducible exact okay_rfl rfl | omega)
    refine W_seq (?_)
    apply W_regS
    · intro K hK
      simp
      repeat' (first | with_reducible exact hK | (with_reducible refine goL_split (fun _ => ?_) (fun _ => ?_) <;> simp) | with_reducible refine And.intro ?_ ?_ | with_reducible exact okay_rfl rfl | omega)
    refine W_cond rfl (fun h4 => W_seq ?_) (fun h4 => W_skip ?_)
    · apply W_regS
      · intro K hK
        simp
        repeat' (first | with_reducible exact hK | (with_reducible refine goL_split (fun _ => ?_) (fun _ => ?_) <;> simp) | with_reducible refine And.intro ?_ ?_ | with_reducible exact okay_rfl rfl | omega)
      simp at h4
      rw [if_pos h4] at he
      refine W_ret ?_
      simp [Fin, he]
      all_goals omega
    simp at h4
    rw [if_neg (by omega)] at he
    apply W_regS
    · intro K hK
      simp
      repeat' (first | with_reducible exact hK | (with_reducible refine goL_split (fun _ => ?_) (fun _ => ?_) <;> simp) | with_reducible refine And.intro ?_ ?_ | with_reducible exact okay_rfl rfl | omega)
    exact ⟨a.length - (i + 1), by omega, i + 1, m - x.length, rfl, h, by omega, by omega, he, by simp [gc, closeN, liveA, gcV, gcO, renA, namesAs, namesA]; rw [wrap_id (by omega) (by omega)]⟩
  simp at h
  rw [if_pos rfl]
  rw [List.drop_of_length_le h] at he
  simp only [szTs] at he
  refine W_seq (?_)
  apply W_regS
  · intro K hK
    simp
    repeat' (first | with_reducible exact hK | (with_reducible refine goL_split (fun _ => ?_) (fun _ => ?_) <;> simp) | with_reducible refine And.intro ?_ ?_ | with_reducible exact okay_rfl rfl | omega)
  refine W_ret ?_
  simp [Fin, he]
  all_goals omega

theorem szTs_le : ∀ (a : List (List UInt8)) (l : Int), 0 ≤ szTs a l → ∀ s, s ∈ a → (s.length : Int) ≤ l := by
  intro a
  induction a with
  | nil => intro l _ s hs; simp at hs
  | cons x a ih =>
    intro l h s hs
    simp only [szTs] at h
    split at h
    · omega
    · rcases List.mem_cons.1 hs with rfl | hs
      · omega
      · have := ih _ h s hs; omega

theorem szT_le {a : List (List UInt8)} {l : Int} (h : 0 ≤ szT a l) : (a.length : Int) ≤ l ∧ ∀ s, s ∈ a → (s.length : Int) ≤ l := by
  unfold szT at h
  split at h
  · omega
  · exact ⟨by omega, fun s hs => by have := szTs_le _ _ h s hs; omega⟩

end Go.Proofs.YtjdepagpjkoglaaDoor.Ab

