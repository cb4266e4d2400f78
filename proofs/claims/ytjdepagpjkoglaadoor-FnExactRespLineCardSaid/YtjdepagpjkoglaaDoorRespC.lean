/-
  A part of a proof about the given program; what is proved is said where each theorem stands.
-/
import Derived.Test.YtjdepagpjkoglaaDoorFrameA
import Derived.Test.YtjdepagpjkoglaaDoorFrameB
import Derived.Test.YtjdepagpjkoglaaDoorFrameC
import Derived.Test.YtjdepagpjkoglaaDoorFrameD
import Derived.Test.YtjdepagpjkoglaaDoorFrameE
import Derived.Test.YtjdepagpjkoglaaDoorShelf
import Derived.Test.YtjdepagpjkoglaaDoorCodesResp
import Derived.Test.YtjdepagpjkoglaaDoorRespA
import Derived.Test.YtjdepagpjkoglaaDoorRespB
set_option linter.unusedSimpArgs false
set_option linter.unusedVariables false
set_option maxRecDepth 100000
namespace Go.Proofs.YtjdepagpjkoglaaDoor.Ab
open Go.Proofs

def tailT (l : List (List UInt8)) : List UInt8 := l.flatMap fun s => 32 :: s

theorem tailT_succ {a : List (List UInt8)} {i : Nat} {x : List UInt8} (ha : a[i]? = some x) : tailT (a.take (i + 1)) = tailT (a.take i) ++ 32 :: x := by
  rw [List.take_add_one, ha]; simp [tailT]

theorem tailT_len (l : List (List UInt8)) (h : ∀ s, s ∈ l → s.length ≤ 1048576) : (tailT l).length ≤ l.length * 1048577 := by
  induction l with
  | nil => simp [tailT]
  | cons x l ih =>
    have h1 := ih fun s hs => h s (by simp [hs])
    have h2 := h x (by simp)
    simp [tailT] at h1 ⊢
    omega

theorem tailT_take_len {l : List (List UInt8)} (h : ∀ s, s ∈ l → s.length ≤ 1048576) (hl : l.length ≤ 1048576) (i : Nat) : (tailT (l.take i)).length ≤ 1099512676352 := by
  have h1 := tailT_len (l.take i) fun s hs => h s (List.mem_of_mem_take hs)
  have h2 : (l.take i).length ≤ 1048576 := by simp; omega
  have : (l.take i).length * 1048577 ≤ 1048576 * 1048577 := Nat.mul_le_mul_right _ h2
  omega

abbrev respC (c n : Int) (t d : List UInt8) (l : List (List UInt8)) : List C := [.d (.int .i64 c), .d (.int .i64 n), .d (.str t), .d (.str d), .d (.slc 1 (strsD l))]

abbrev respA (c n : Int) (t d : List UInt8) (l : List (List UInt8)) : List A := [.d (.int .i64 c), .d (.int .i64 n), .d (.str t), .d (.str d), .d (.slc 1 (strsD l))]

def resp1 (n : Int) : List UInt8 := [111, 107, 32] ++ Lib.itoa n

def resp2 (n : Int) (t : List UInt8) : List UInt8 := resp1 n ++ (if t = [] then [] else 32 :: t)

def resp3 (n : Int) (t d : List UInt8) : List UInt8 := resp2 n t ++ (if d = [] then [] else 32 :: 35 :: hexOf d)

def respT (c n : Int) (t d : List UInt8) (l : List (List UInt8)) : List UInt8 := if c = 0 then resp3 n t d ++ tailT l else [110, 111, 32] ++ Lib.itoa c

theorem resp3_len {n : Int} {t d : List UInt8} (hn : int64 n) (h1 : t.length ≤ 1048576) (h2 : d.length ≤ 1048576) : (resp1 n).length ≤ 30 ∧ (resp2 n t).length ≤ 2000000 ∧ (resp3 n t d).length ≤ 6000000 := by
  have := itoa_len hn
  have := hex_len d
  unfold resp3 resp2 resp1
  refine ⟨by simp; omega, ?_, ?_⟩
  · split <;> simp <;> omega
  · split <;> split <;> simp <;> omega

theorem s_RespLine_ok (c n : Int) (t d : List UInt8) (l : List (List UInt8)) (hc : int64 c) (hn : int64 n) (h1 : t.length ≤ 1048576) (h2 : d.length ≤ 1048576) (h3 : l.length ≤ 1048576) (h4 : ∀ s, s ∈ l → s.length ≤ 1048576) :
    Valid PP GG F_S_RespLine [.agg (respC c n t d l)] (.d (.str (respT c n t d l))) [none] := by
  refine v_S_RespLine [.d (.str (respT c n t d l))] rfl rfl ?_
  have e1 := itoa_len hc
  have e2 := itoa_len hn
  obtain ⟨r1, r2, r3⟩ := resp3_len hn h1 h2
  refine W_seq (?_)
  apply W_regS
  · intro K hK
    simp
    repeat' (first | with_reducible exact hK | (with_reducible refine goL_split (fun _ => ?_) (fun _ => ?_) <;> simp) | with_reducible refine And.intro ?_ ?_ | with_reducible exact okay_rfl rfl | omega)
  refine W_seq (W_seq (?_))
  apply W_regS
  · intro K hK
    simp
    repeat' (first | with_reducible exact hK | (with_reducible refine goL_split (fun _ => ?_) (fun _ => ?_) <;> simp) | with_reducible refine And.intro ?_ ?_ | with_reducible exact okay_rfl rfl | omega)
  refine W_cond rfl (fun h => W_seq ?_) (fun h => W_skip ?_)
  · simp at h
    apply W_regS
    · intro K hK
      simp [maxStr]
      repeat' (first | with_reducible exact hK | (with_reducible refine callQ (l01Num_ok c hc) ?_; simp [maxStr]) | (with_reducible refine goL_split (fun _ => ?_) (fun _ => ?_) <;> simp [maxStr]) | with_reducible refine And.intro ?_ ?_ | with_reducible exact okay_rfl rfl | omega)
    have : respT c n t d l = 110 :: 111 :: 32 :: Lib.itoa c := by unfold respT; rw [if_neg h]; rfl
    refine W_ret ?_
    simp [Fin, this]
    all_goals omega
  simp at h
  subst h
  refine W_seq (?_)
  apply W_regS
  · intro K hK
    simp [maxStr]
    repeat' (first | with_reducible exact hK | (with_reducible refine callQ (l01Num_ok n hn) ?_; simp [maxStr]) | (with_reducible refine goL_split (fun _ => ?_) (fun _ => ?_) <;> simp [maxStr]) | with_reducible refine And.intro ?_ ?_ | with_reducible exact okay_rfl rfl | omega)
  refine W_cut [1, 3] (fun st' => st' = ⟨[], [(1, .ptr 0 0), (3, .d (.str (resp2 n t)))], [(0, .box (respA 0 n t d l))], 1⟩) ?_ ?_
  · refine W_seq (?_)
    apply W_regS
    · intro K hK
      simp
      repeat' (first | with_reducible exact hK | (with_reducible refine goL_split (fun _ => ?_) (fun _ => ?_) <;> simp) | with_reducible refine And.intro ?_ ?_ | with_reducible exact okay_rfl rfl | omega)
    refine W_cond rfl (fun h => ?_) (fun h => W_skip ?_)
    · simp at h
      apply W_regS
      · intro K hK
        simp [maxStr]
        repeat' (first | with_reducible exact hK | (with_reducible refine goL_split (fun _ => ?_) (fun _ => ?_) <;> simp [maxStr]) | with_reducible refine And.intro ?_ ?_ | with_reducible exact okay_rfl rfl | omega)
      simp [gc, closeN, liveA, gcV, gcO, renA, renAs, renO, namesAs, namesA, namesO, posn, resp2, resp1, h]
    · simp at h
      simp [gc, closeN, liveA, gcV, gcO, renA, renAs, renO, namesAs, namesA, namesO, posn, resp2, resp1, h]
  rintro st rfl
  refine W_cut [1, 3] (fun st' => st' = ⟨[], [(1, .ptr 0 0), (3, .d (.str (resp3 n t d)))], [(0, .box (respA 0 n t d l))], 1⟩) ?_ ?_
  · refine W_seq (?_)
    apply W_regS
    · intro K hK
      simp
      repeat' (first | with_reducible exact hK | (with_reducible refine goL_split (fun _ => ?_) (fun _ => ?_) <;> simp) | with_reducible refine And.intro ?_ ?_ | with_reducible exact okay_rfl rfl | omega)
    refine W_cond rfl (fun h => ?_) (fun h => W_skip ?_)
    · simp at h
      refine W_seq (?_)
      apply W_regS
      · intro K hK
        simp [litA]
        repeat' (first | with_reducible exact hK | (with_reducible refine goL_split (fun _ => ?_) (fun _ => ?_) <;> simp [litA]) | with_reducible refine And.intro ?_ ?_ | with_reducible exact okay_rfl rfl | omega)
      refine W_seq (?_)
      apply W_regS
      · intro K hK
        simp
        repeat' (first | with_reducible exact hK | (with_reducible refine goL_split (fun _ => ?_) (fun _ => ?_) <;> simp) | with_reducible refine And.intro ?_ ?_ | with_reducible exact okay_rfl rfl | omega)
      refine W_seq (?_)
      refine W_seq (?_)
      apply W_regS
      · intro K hK
        simp
        repeat' (first | with_reducible exact hK | (with_reducible refine goL_split (fun _ => ?_) (fun _ => ?_) <;> simp) | with_reducible refine And.intro ?_ ?_ | with_reducible exact okay_rfl rfl | omega)
      refine W_block (W_loop (fun m st => ∃ (i : Nat), m = d.length - i ∧ i ≤ d.length ∧
        st = ⟨[], [(1, .ptr 0 0), (3, .d (.str (resp2 n t))), (4, .sl 1), (5, .d (.str [48, 49, 50, 51, 52, 53, 54, 55, 56, 57, 97, 98, 99, 100, 101, 102])), (6, .d (.int .i64 i))],
          [(0, .box (respA 0 n t d l)), (1, .arr 0 0 1 (bytesD (32 :: 35 :: hexOf (d.take i))))], 2⟩) _ ⟨0, rfl, by omega, ?_⟩ ?_)
      · simp [gc, closeN, liveA, gcV, gcO, renA, renAs, renO, namesAs, namesA, namesO, posn, bytesD, hexOf]
      rintro m st ⟨i, rfl, hi, rfl⟩
      refine W_seq (W_seq (?_))
      apply W_regS
      · intro K hK
        simp
        repeat' (first | with_reducible exact hK | (with_reducible refine goL_split (fun _ => ?_) (fun _ => ?_) <;> simp) | with_reducible refine And.intro ?_ ?_ | with_reducible exact okay_rfl rfl | omega)
      refine W_cond rfl (fun h => W_skip ?_) (fun h => W_exit ?_)
      · simp at h
        have ha := List.getElem?_eq_getElem h
        generalize d[i] = x at ha
        refine W_seq (W_block ?_)
        have hl := hex_len (d.take i)
        have hl2 : (d.take i).length ≤ d.length := by simp; omega
        have hx := x.toNat_lt
        obtain ⟨q, hq⟩ : ∃ q : Nat, q = x.toNat / 16 := ⟨_, rfl⟩
        obtain ⟨r, hr⟩ : ∃ r : Nat, r = x.toNat % 16 := ⟨_, rfl⟩
        have g1 := u8_quo x
        have g2 := u8_rem x
        rw [← hq] at g1
        rw [← hr] at g2
        simp at g1
        apply W_regD
        · intro K hK
          simp [ha, g1, g2, limit]
          repeat' (first | with_reducible exact hK | (with_reducible refine goL_split (fun _ => ?_) (fun _ => ?_) <;> simp [ha, g1, g2, limit]) | with_reducible refine And.intro ?_ ?_ | with_reducible exact okay_rfl rfl | omega)
        apply W_regS
        · intro K hK
          simp
          repeat' (first | with_reducible exact hK | (with_reducible refine goL_split (fun _ => ?_) (fun _ => ?_) <;> simp) | with_reducible refine And.intro ?_ ?_ | with_reducible exact okay_rfl rfl | omega)
        have hs : 32 :: 35 :: hexOf (d.take (i + 1)) = (32 :: 35 :: hexOf (d.take i)) ++ [hexDigit q, hexDigit r] := by rw [hex_succ ha, hq, hr]; rfl
        exact ⟨d.length - (i + 1), by omega, i + 1, rfl, h, by
          rw [hs, bytes_app2]
          simp [gc, closeN, liveA, gcV, gcO, renA, renAs, renO, namesAs, namesA, namesO, posn, hexDigit]
          rw [wrap_id (by omega) (by omega)]⟩
      · simp at h
        rw [if_pos rfl]
        have hl := hex_len d
        apply W_regS
        · intro K hK
          simp [strOf_bytesD, List.take_of_length_le h, maxStr]
          repeat' (first | with_reducible exact hK | (with_reducible refine goL_split (fun _ => ?_) (fun _ => ?_) <;> simp [strOf_bytesD, List.take_of_length_le h, maxStr]) | with_reducible refine And.intro ?_ ?_ | with_reducible exact okay_rfl rfl | omega)
        simp [gc, closeN, liveA, gcV, gcO, renA, renAs, renO, namesAs, namesA, namesO, posn, resp3]
        assumption
    · simp at h
      simp [gc, closeN, liveA, gcV, gcO, renA, renAs, renO, namesAs, namesA, namesO, posn, resp3, h]
  rintro st rfl
  refine W_seq (?_)
  apply W_regS
  · intro K hK
    simp [litA]
    repeat' (first | with_reducible exact hK | (with_reducible refine goL_split (fun _ => ?_) (fun _ => ?_) <;> simp [litA]) | with_reducible refine And.intro ?_ ?_ | with_reducible exact okay_rfl rfl | omega)
  refine W_seq (W_seq (?_))
  apply W_regS
  · intro K hK
    simp
    repeat' (first | with_reducible exact hK | (with_reducible refine goL_split (fun _ => ?_) (fun _ => ?_) <;> simp) | with_reducible refine And.intro ?_ ?_ | with_reducible exact okay_rfl rfl | omega)
  refine W_block (W_loop (fun m st => ∃ (i : Nat), m = l.length - i ∧ i ≤ l.length ∧
    st = ⟨[], [(1, .ptr 0 0), (3, .d (.str (resp3 n t d))), (7, .sl 1), (8, .d (.int .i64 i))], [(0, .box (respA 0 n t d l)), (1, .arr 0 0 1 (bytesD (tailT (l.take i))))], 2⟩) _ ⟨0, rfl, by omega, ?_⟩ ?_)
  · simp [gc, closeN, liveA, gcV, gcO, renA, renAs, renO, namesAs, namesA, namesO, posn, bytesD, tailT]
  rintro m st ⟨i, rfl, hi, rfl⟩
  refine W_seq (W_seq (?_))
  apply W_regS
  · intro K hK
    simp
    repeat' (first | with_reducible exact hK | (with_reducible refine goL_split (fun _ => ?_) (fun _ => ?_) <;> simp) | with_reducible refine And.intro ?_ ?_ | with_reducible exact okay_rfl rfl | omega)
  refine W_cond rfl (fun h => W_skip ?_) (fun h => W_exit ?_)
  · simp at h
    have ha := List.getElem?_eq_getElem h
    have hm := List.getElem_mem h
    generalize l[i] = x at ha hm
    have hx := h4 x hm
    have ht := tailT_take_len h4 h3 i
    refine W_seq (W_block (W_seq ?_))
    apply W_regS
    · intro K hK
      simp [litA, limit]
      repeat' (first | with_reducible exact hK | (with_reducible refine goL_split (fun _ => ?_) (fun _ => ?_) <;> simp [litA, limit]) | with_reducible refine And.intro ?_ ?_ | with_reducible exact okay_rfl rfl | omega)
    refine W_seq (?_)
    apply W_regS
    · intro K hK
      simp
      repeat' (first | with_reducible exact hK | (with_reducible refine goL_split (fun _ => ?_) (fun _ => ?_) <;> simp) | with_reducible refine And.intro ?_ ?_ | with_reducible exact okay_rfl rfl | omega)
    refine W_block (W_loop (fun m st => ∃ (j : Nat), m = x.length - j ∧ j ≤ x.length ∧
      st = ⟨[], [(1, .ptr 0 0), (3, .d (.str (resp3 n t d))), (7, .sl 1), (8, .d (.int .i64 i)), (9, .d (.int .i64 j))], [(0, .box (respA 0 n t d l)), (1, .arr 0 0 1 (bytesD (tailT (l.take i) ++ 32 :: x.take j)))], 2⟩) _ ⟨0, rfl, by omega, ?_⟩ ?_)
    · simp [gc, closeN, liveA, gcV, gcO, renA, renAs, renO, namesAs, namesA, namesO, posn, bytesD]
    rintro m st ⟨j, rfl, hj, rfl⟩
    refine W_seq (W_seq (?_))
    apply W_regS
    · intro K hK
      simp [ha]
      repeat' (first | with_reducible exact hK | (with_reducible refine goL_split (fun _ => ?_) (fun _ => ?_) <;> simp [ha]) | with_reducible refine And.intro ?_ ?_ | with_reducible exact okay_rfl rfl | omega)
    refine W_cond rfl (fun h => W_skip ?_) (fun h => W_exit ?_)
    · simp at h
      have hb := List.getElem?_eq_getElem h
      generalize x[j] = y at hb
      have hl2 : (x.take j).length ≤ x.length := by simp; omega
      refine W_seq (W_block ?_)
      apply W_regS
      · intro K hK
        simp [ha, hb, litA, limit]
        repeat' (first | with_reducible exact hK | (with_reducible refine goL_split (fun _ => ?_) (fun _ => ?_) <;> simp [ha, hb, litA, limit]) | with_reducible refine And.intro ?_ ?_ | with_reducible exact okay_rfl rfl | omega)
      apply W_regS
      · intro K hK
        simp
        repeat' (first | with_reducible exact hK | (with_reducible refine goL_split (fun _ => ?_) (fun _ => ?_) <;> simp) | with_reducible refine And.intro ?_ ?_ | with_reducible exact okay_rfl rfl | omega)
      exact ⟨x.length - (j + 1), by omega, j + 1, rfl, h, by
        simp [gc, closeN, liveA, gcV, gcO, renA, renAs, renO, namesAs, namesA, namesO, posn, List.take_add_one, hb, bytesD]
        rw [wrap_id (by omega) (by omega)]⟩
    · simp at h
      rw [if_pos rfl]
      apply W_regS
      · intro K hK
        simp
        repeat' (first | with_reducible exact hK | (with_reducible refine goL_split (fun _ => ?_) (fun _ => ?_) <;> simp) | with_reducible refine And.intro ?_ ?_ | with_reducible exact okay_rfl rfl | omega)
      rename_i hh
      exact ⟨l.length - (i + 1), by omega, i + 1, rfl, by omega, by
        simp [gc, closeN, liveA, gcV, gcO, renA, renAs, renO, namesAs, namesA, namesO, posn, tailT_succ ha, List.take_of_length_le h]
        rw [wrap_id (by omega) (by omega)]⟩
  · simp at h
    rw [if_pos rfl]
    have ht := tailT_take_len h4 h3 l.length
    rw [List.take_length] at ht
    refine W_seq (?_)
    apply W_regS
    · intro K hK
      simp [strOf_bytesD, List.take_of_length_le h, maxStr]
      repeat' (first | with_reducible exact hK | (with_reducible refine goL_split (fun _ => ?_) (fun _ => ?_) <;> simp [strOf_bytesD, List.take_of_length_le h, maxStr]) | with_reducible refine And.intro ?_ ?_ | with_reducible exact okay_rfl rfl | omega)
    refine W_ret ?_
    simp [Fin, respT]
    all_goals omega

end Go.Proofs.YtjdepagpjkoglaaDoor.Ab


set_option linter.unusedSimpArgs false
set_option linter.unusedVariables false
set_option maxRecDepth 100000
namespace Go.Proofs.YtjdepagpjkoglaaDoor.Ab
open Go.Proofs

theorem i_RespLine_ok (c n : Int) (t d : List UInt8) (l : List (List UInt8)) (hc : int64 c) (hn : int64 n) (h1 : t.length ≤ 1048576) (h2 : d.length ≤ 1048576) (h3 : l.length ≤ 1048576) (h4 : ∀ s, s ∈ l → s.length ≤ 1048576) :
    Valid PP GG F_I_RespLine [.agg (respC c n t d l)] (.d (.str (respT c n t d l))) [none] := by
  refine v_I_RespLine [.d (.str (respT c n t d l))] rfl rfl ?_
  have e1 := itoa_len hc
  have e2 := itoa_len hn
  have e3 := hex_len d
  obtain ⟨r1, r2, r3⟩ := resp3_len hn h1 h2
  refine W_seq (?_)
  apply W_regS
  · intro K hK
    simp
    repeat' (first | with_reducible exact hK | (with_reducible refine goL_split (fun _ => ?_) (fun _ => ?_) <;> simp) | with_reducible refine And.intro ?_ ?_ | with_reducible exact okay_rfl rfl | omega)
  refine W_seq (W_seq (?_))
  apply W_regS
  · intro K hK
    simp
    repeat' (first | with_reducible exact hK | (with_reducible refine goL_split (fun _ => ?_) (fun _ => ?_) <;> simp) | with_reducible refine And.intro ?_ ?_ | with_reducible exact okay_rfl rfl | omega)
  refine W_cond rfl (fun h => W_seq ?_) (fun h => W_skip ?_)
  · simp at h
    apply W_regS
    · intro K hK
      simp [maxStr]
      repeat' (first | with_reducible exact hK | (with_reducible refine callQ (Itoa_ok c hc) ?_; simp [maxStr]) | (with_reducible refine goL_split (fun _ => ?_) (fun _ => ?_) <;> simp [maxStr]) | with_reducible refine And.intro ?_ ?_ | with_reducible exact okay_rfl rfl | omega)
    have : respT c n t d l = 110 :: 111 :: 32 :: Lib.itoa c := by unfold respT; rw [if_neg h]; rfl
    refine W_ret ?_
    simp [Fin, this]
    all_goals omega
  simp at h
  subst h
  refine W_seq (?_)
  apply W_regS
  · intro K hK
    simp [maxStr]
    repeat' (first | with_reducible exact hK | (with_reducible refine callQ (Itoa_ok n hn) ?_; simp [maxStr]) | (with_reducible refine goL_split (fun _ => ?_) (fun _ => ?_) <;> simp [maxStr]) | with_reducible refine And.intro ?_ ?_ | with_reducible exact okay_rfl rfl | omega)
  refine W_cut [1, 3] (fun st' => st' = ⟨[], [(1, .ptr 0 0), (3, .d (.str (resp2 n t)))], [(0, .box (respA 0 n t d l))], 1⟩) ?_ ?_
  · refine W_seq (?_)
    apply W_regS
    · intro K hK
      simp
      repeat' (first | with_reducible exact hK | (with_reducible refine goL_split (fun _ => ?_) (fun _ => ?_) <;> simp) | with_reducible refine And.intro ?_ ?_ | with_reducible exact okay_rfl rfl | omega)
    refine W_cond rfl (fun h => ?_) (fun h => W_skip ?_)
    · simp at h
      apply W_regS
      · intro K hK
        simp [maxStr]
        repeat' (first | with_reducible exact hK | (with_reducible refine goL_split (fun _ => ?_) (fun _ => ?_) <;> simp [maxStr]) | with_reducible refine And.intro ?_ ?_ | with_reducible exact okay_rfl rfl | omega)
      simp [gc, closeN, liveA, gcV, gcO, renA, renAs, renO, namesAs, namesA, namesO, posn, resp2, resp1, h]
    · simp at h
      simp [gc, closeN, liveA, gcV, gcO, renA, renAs, renO, namesAs, namesA, namesO, posn, resp2, resp1, h]
  rintro st rfl
  refine W_cut [1, 3] (fun st' => st' = ⟨[], [(1, .ptr 0 0), (3, .d (.str (resp3 n t d)))], [(0, .box (respA 0 n t d l))], 1⟩) ?_ ?_
  · refine W_seq (?_)
    apply W_regS
    · intro K hK
      simp
      repeat' (first | with_reducible exact hK | (with_reducible refine goL_split (fun _ => ?_) (fun _ => ?_) <;> simp) | with_reducible refine And.intro ?_ ?_ | with_reducible exact okay_rfl rfl | omega)
    refine W_cond rfl (fun h => ?_) (fun h => W_skip ?_)
    · simp at h
      apply W_regS
      · intro K hK
        simp [maxStr]
        repeat' (first | with_reducible exact hK | (with_reducible refine callQ (hexText_ok d (by omega)) ?_; simp [maxStr]) | (with_reducible refine goL_split (fun _ => ?_) (fun _ => ?_) <;> simp [maxStr]) | with_reducible refine And.intro ?_ ?_ | with_reducible exact okay_rfl rfl | omega)
      simp [gc, closeN, liveA, gcV, gcO, renA, renAs, renO, namesAs, namesA, namesO, posn, resp3, h]
    · simp at h
      simp [gc, closeN, liveA, gcV, gcO, renA, renAs, renO, namesAs, namesA, namesO, posn, resp3, h]
  rintro st rfl
  refine W_seq (W_seq (?_))
  apply W_regS
  · intro K hK
    simp
    repeat' (first | with_reducible exact hK | (with_reducible refine goL_split (fun _ => ?_) (fun _ => ?_) <;> simp) | with_reducible refine And.intro ?_ ?_ | with_reducible exact okay_rfl rfl | omega)
  refine W_block (W_loop (fun m st => ∃ (i : Nat), m = l.length - i ∧ i ≤ l.length ∧
    st = ⟨[], [(3, .d (.str (resp3 n t d ++ tailT (l.take i)))), (36, .d (.slc 1 (strsD l))), (37, .d (.int .i64 l.length)), (38, .d (.int .i64 i))], [], 0⟩) _ ⟨0, rfl, by omega, ?_⟩ ?_)
  · simp [gc, closeN, liveA, gcV, gcO, renA, renAs, renO, namesAs, namesA, namesO, posn, bytesD, tailT]
  rintro m st ⟨i, rfl, hi, rfl⟩
  refine W_seq (?_)
  apply W_regS
  · intro K hK
    simp
    repeat' (first | with_reducible exact hK | (with_reducible refine goL_split (fun _ => ?_) (fun _ => ?_) <;> simp) | with_reducible refine And.intro ?_ ?_ | with_reducible exact okay_rfl rfl | omega)
  refine W_seq (?_)
  refine W_cond rfl (fun h => W_skip ?_) (fun h => W_exit ?_)
  · simp at h
    have ha := List.getElem?_eq_getElem h
    have hm := List.getElem_mem h
    generalize l[i] = x at ha hm
    have hx := h4 x hm
    have ht := tailT_take_len h4 h3 i
    refine W_seq (W_block (W_seq ?_))
    apply W_regS
    · intro K hK
      simp [ha]
      repeat' (first | with_reducible exact hK | (with_reducible refine goL_split (fun _ => ?_) (fun _ => ?_) <;> simp [ha]) | with_reducible refine And.intro ?_ ?_ | with_reducible exact okay_rfl rfl | omega)
    apply W_regS
    · intro K hK
      simp [maxStr]
      repeat' (first | with_reducible exact hK | (with_reducible refine goL_split (fun _ => ?_) (fun _ => ?_) <;> simp [maxStr]) | with_reducible refine And.intro ?_ ?_ | with_reducible exact okay_rfl rfl | omega)
    apply W_regS
    · intro K hK
      simp
      repeat' (first | with_reducible exact hK | (with_reducible refine goL_split (fun _ => ?_) (fun _ => ?_) <;> simp) | with_reducible refine And.intro ?_ ?_ | with_reducible exact okay_rfl rfl | omega)
    exact ⟨l.length - (i + 1), by omega, i + 1, rfl, by omega, by
      simp [gc, closeN, liveA, gcV, gcO, renA, renAs, renO, namesAs, namesA, namesO, posn, tailT_succ ha]
      rw [wrap_id (by omega) (by omega)]⟩
  · simp at h
    rw [if_pos rfl]
    refine W_seq (?_)
    apply W_regS
    · intro K hK
      simp [List.take_of_length_le h]
      repeat' (first | with_reducible exact hK | (with_reducible refine goL_split (fun _ => ?_) (fun _ => ?_) <;> simp [List.take_of_length_le h]) | with_reducible refine And.intro ?_ ?_ | with_reducible exact okay_rfl rfl | omega)
    refine W_ret ?_
    simp [Fin, respT]
    all_goals omega

end Go.Proofs.YtjdepagpjkoglaaDoor.Ab


set_option linter.unusedSimpArgs false
set_option linter.unusedVariables false
set_option maxRecDepth 100000
namespace Go.Proofs.YtjdepagpjkoglaaDoor.Ab
open Go.Proofs

def szResp (t d : List UInt8) (ls : List (List UInt8)) (l : Int) : Int :=
  if l - t.length < 0 then -1 else if l - t.length - d.length < 0 then -1 else if szT ls (l - t.length - d.length) < 0 then -1 else szT ls (l - t.length - d.length)

theorem szResp_ok (c n : Int) (t d : List UInt8) (ls : List (List UInt8)) (l : Int) (hl : 0 ≤ l ∧ l ≤ 1048576) (h1 : t.length ≤ maxLen) (h2 : d.length ≤ maxLen) (h3 : ls.length ≤ maxLen) (h4 : ∀ s, s ∈ ls → s.length ≤ maxLen) :
    Valid PP GG F_L_szResp [.agg (respC c n t d ls), .d (.int .i64 l)] (.d (.int .i64 (szResp t d ls l))) [none, none] := by
  refine v_L_szResp [.d (.int .i64 (szResp t d ls l))] rfl rfl ?_
  have w1 : IntKind.i64.wrap (l - t.length) = l - t.length := wrap_id (by unfold maxLen at h1; omega) (by omega)
  refine W_seq (?_)
  apply W_regS
  · intro K hK
    simp
    repeat' (first | with_reducible exact hK | (with_reducible refine goL_split (fun _ => ?_) (fun _ => ?_) <;> simp) | with_reducible refine And.intro ?_ ?_ | with_reducible exact okay_rfl rfl | omega)
  refine W_seq (?_)
  apply W_regS
  · intro K hK
    simp [w1]
    repeat' (first | with_reducible exact hK | (with_reducible refine goL_split (fun _ => ?_) (fun _ => ?_) <;> simp [w1]) | with_reducible refine And.intro ?_ ?_ | with_reducible exact okay_rfl rfl | omega)
  refine W_seq (W_seq (?_))
  apply W_regS
  · intro K hK
    simp
    repeat' (first | with_reducible exact hK | (with_reducible refine goL_split (fun _ => ?_) (fun _ => ?_) <;> simp) | with_reducible refine And.intro ?_ ?_ | with_reducible exact okay_rfl rfl | omega)
  refine W_cond rfl (fun h => W_seq ?_) (fun a1 => W_skip ?_)
  · apply W_regS
    · intro K hK
      simp
      repeat' (first | with_reducible exact hK | (with_reducible refine goL_split (fun _ => ?_) (fun _ => ?_) <;> simp) | with_reducible refine And.intro ?_ ?_ | with_reducible exact okay_rfl rfl | omega)
    simp at h
    have : szResp t d ls l = -1 := by unfold szResp; rw [if_pos h]
    refine W_ret ?_
    simp [Fin, this]
    all_goals omega
  simp at a1
  have w2 : IntKind.i64.wrap (l - t.length - d.length) = l - t.length - d.length := wrap_id (by unfold maxLen at h2; omega) (by omega)
  refine W_seq (?_)
  apply W_regS
  · intro K hK
    simp [w2]
    repeat' (first | with_reducible exact hK | (with_reducible refine goL_split (fun _ => ?_) (fun _ => ?_) <;> simp [w2]) | with_reducible refine And.intro ?_ ?_ | with_reducible exact okay_rfl rfl | omega)
  refine W_seq (W_seq (?_))
  apply W_regS
  · intro K hK
    simp
    repeat' (first | with_reducible exact hK | (with_reducible refine goL_split (fun _ => ?_) (fun _ => ?_) <;> simp) | with_reducible refine And.intro ?_ ?_ | with_reducible exact okay_rfl rfl | omega)
  refine W_cond rfl (fun h => W_seq ?_) (fun a2 => W_skip ?_)
  · apply W_regS
    · intro K hK
      simp
      repeat' (first | with_reducible exact hK | (with_reducible refine goL_split (fun _ => ?_) (fun _ => ?_) <;> simp) | with_reducible refine And.intro ?_ ?_ | with_reducible exact okay_rfl rfl | omega)
    simp at h
    have : szResp t d ls l = -1 := by unfold szResp; rw [if_neg (by omega), if_pos h]
    refine W_ret ?_
    simp [Fin, this]
    all_goals omega
  simp at a2
  refine W_seq (?_)
  apply W_regS
  · intro K hK
    simp
    repeat' (first | with_reducible exact hK | (with_reducible refine callQ (szStringS_ok ls (l - t.length - d.length) h3 ⟨by omega, by omega⟩ h4) ?_; simp) | (with_reducible refine goL_split (fun _ => ?_) (fun _ => ?_) <;> simp) | with_reducible refine And.intro ?_ ?_ | with_reducible exact okay_rfl rfl | omega)
  refine W_seq (W_seq (?_))
  apply W_regS
  · intro K hK
    simp
    repeat' (first | with_reducible exact hK | (with_reducible refine goL_split (fun _ => ?_) (fun _ => ?_) <;> simp) | with_reducible refine And.intro ?_ ?_ | with_reducible exact okay_rfl rfl | omega)
  refine W_cond rfl (fun h5 => W_seq ?_) (fun h5 => W_skip ?_)
  · apply W_regS
    · intro K hK
      simp
      repeat' (first | with_reducible exact hK | (with_reducible refine goL_split (fun _ => ?_) (fun _ => ?_) <;> simp) | with_reducible refine And.intro ?_ ?_ | with_reducible exact okay_rfl rfl | omega)
    simp at h5
    have : szResp t d ls l = -1 := by unfold szResp; rw [if_neg (by omega), if_neg (by omega), if_pos h5]
    refine W_ret ?_
    simp [Fin, this]
    all_goals omega
  simp at h5
  refine W_seq (?_)
  apply W_regS
  · intro K hK
    simp
    repeat' (first | with_reducible exact hK | (with_reducible refine goL_split (fun _ => ?_) (fun _ => ?_) <;> simp) | with_reducible refine And.intro ?_ ?_ | with_reducible exact okay_rfl rfl | omega)
  have : szResp t d ls l = szT ls (l - t.length - d.length) := by unfold szResp; rw [if_neg (by omega), if_neg (by omega), if_neg (by omega)]
  refine W_ret ?_
  simp [Fin, this]
  all_goals omega

theorem toResp_ok (c n : Int) (t d : List UInt8) (ls : List (List UInt8)) (h2 : ls.length * 16 ≤ 140737488355328) :
    Valid PP GG F_L_toResp [.agg (respC c n t d ls)] (.agg [.d (.int .i64 c), .d (.int .i64 n), .d (.str t), .d (.str d), .own 0 1 (strsD ls)]) [none] := by
  refine v_L_toResp [.agg [.d (.int .i64 c), .d (.int .i64 n), .d (.str t), .d (.str d), .own 0 1 (strsD ls)]] rfl rfl ?_
  refine W_seq (?_)
  apply W_regS
  · intro K hK
    simp
    repeat' (first | with_reducible exact hK | (with_reducible refine goL_split (fun _ => ?_) (fun _ => ?_) <;> simp) | with_reducible refine And.intro ?_ ?_ | with_reducible exact okay_rfl rfl | omega)
  refine W_seq (?_)
  apply W_regS
  · intro K hK
    simp
    repeat' (first | with_reducible exact hK | (with_reducible refine goL_split (fun _ => ?_) (fun _ => ?_) <;> simp) | with_reducible refine And.intro ?_ ?_ | with_reducible exact okay_rfl rfl | omega)
  refine W_seq (?_)
  apply W_regS
  · intro K hK
    simp
    repeat' (first | with_reducible exact hK | (with_reducible refine goL_split (fun _ => ?_) (fun _ => ?_) <;> simp) | with_reducible refine And.intro ?_ ?_ | with_reducible exact okay_rfl rfl | omega)
  refine W_seq (?_)
  apply W_regS
  · intro K hK
    simp
    repeat' (first | with_reducible exact hK | (with_reducible refine goL_split (fun _ => ?_) (fun _ => ?_) <;> simp) | with_reducible refine And.intro ?_ ?_ | with_reducible exact okay_rfl rfl | omega)
  refine W_seq (?_)
  apply W_regS
  · intro K hK
    simp
    repeat' (first | with_reducible exact hK | (with_reducible refine goL_split (fun _ => ?_) (fun _ => ?_) <;> simp) | with_reducible refine And.intro ?_ ?_ | with_reducible exact okay_rfl rfl | omega)
  refine W_seq (?_)
  apply W_regS
  · intro K hK
    simp
    repeat' (first | with_reducible exact hK | (with_reducible refine goL_split (fun _ => ?_) (fun _ => ?_) <;> simp) | with_reducible refine And.intro ?_ ?_ | with_reducible exact okay_rfl rfl | omega)
  refine W_seq (?_)
  apply W_regS
  · intro K hK
    simp
    repeat' (first | with_reducible exact hK | (with_reducible refine callQ (toStringS_ok ls h2) ?_; simp) | (with_reducible refine goL_split (fun _ => ?_) (fun _ => ?_) <;> simp) | with_reducible refine And.intro ?_ ?_ | with_reducible exact okay_rfl rfl | omega)
  refine W_seq (?_)
  apply W_regS
  · intro K hK
    simp
    repeat' (first | with_reducible exact hK | (with_reducible refine goL_split (fun _ => ?_) (fun _ => ?_) <;> simp) | with_reducible refine And.intro ?_ ?_ | with_reducible exact okay_rfl rfl | omega)
  refine W_ret ?_
  simp [Fin]
  all_goals omega

end Go.Proofs.YtjdepagpjkoglaaDoor.Ab

