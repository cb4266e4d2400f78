/-
  A part of a proof about the given program; what is proved is said where each theorem stands.
-/
import Derived.Test.YtoomonfpedjgoaaGreatDoorFrameA
import Derived.Test.YtoomonfpedjgoaaGreatDoorFrameB
import Derived.Test.YtoomonfpedjgoaaGreatDoorFrameC
import Derived.Test.YtoomonfpedjgoaaGreatDoorFrameD
import Derived.Test.YtoomonfpedjgoaaGreatDoorFrameE
import Derived.Test.YtoomonfpedjgoaaGreatDoorHead
import Derived.Test.YtoomonfpedjgoaaGreatDoorShelf
import Derived.Test.YtoomonfpedjgoaaGreatDoorPartA
import Derived.Test.YtoomonfpedjgoaaGreatDoorPartB
import Derived.Test.YtoomonfpedjgoaaGreatDoorPartC
namespace Go.Proofs
end Go.Proofs
set_option linter.unusedSimpArgs false
set_option linter.unusedVariables false
set_option maxRecDepth 100000
set_option maxHeartbeats 2000000
namespace Go.Proofs.YtoomonfpedjgoaaGreatDoor.Ab
open Go.Proofs
variable {GG : GV}
theorem insertion_ok (l : List GLease) (a b : Nat) (g : FuncId) (caps : List (List D)) (lt : GLease → GLease → Bool) (hc : CmpOk GG g caps lt l) (h1 : a ≤ b) (h3 : b ≤ l.length) (hl : l.length ≤ 1048576) :
    Valid PP GG 182 [.own 0 6 (rLease l), .d (.int .i64 a), .d (.int .i64 b), .d (.fn g caps)] (.tup []) [some (.own 0 6 (rLease (insS lt a b l))), none, none, none] := by
  refine cv Tryz.func182 [] ?_
  generalize hT : insS lt a b l = T
  unfold insS at hT
  refine u_23 ?_
  refine W_loop (fun w st => ∃ (i : Nat) (L : List GLease), w = b + 1 - i ∧ a + 1 ≤ i ∧ (i ≤ b ∨ i = a + 1) ∧ L.length = l.length ∧ CmpOk GG g caps lt L ∧ insO lt a (b - i) i L = T ∧
    st = ⟨[], [(0, .sl 0), (1, .d (.int .i64 a)), (2, .d (.int .i64 b)), (3, .d (.fn g caps)), (8, .d (.int .i64 i))], [(0, .arr 0 0 6 (rLease L))], 1⟩) _ ⟨a + 1, l, rfl, by omega, Or.inr rfl, rfl, hc, hT, ?_⟩ ?_
  · refine u_19 ?_
    exact wrap_id (by omega) (by omega)
  rintro w st ⟨i, L, rfl, hai, hib, hL, hcL, hs, rfl⟩
  have e3 : IntKind.i64.wrap ((i : Int) + 1) = (i + 1 : Nat) := by rw [wrap_id (by omega) (by omega)]; omega
  by_cases hlt : i < b
  · rw [show b - i = b - (i + 1) + 1 by omega, insO] at hs
    generalize hU : insJ lt a i L = U at hs
    have hUl : U.length = l.length := by rw [← hU, insJ_len]; exact hL
    refine u_15 e3 ?_
    refine W_loop (fun w st => ∃ (j : Nat) (M : List GLease), w = j + 1 ∧ a ≤ j ∧ j ≤ i ∧ M.length = l.length ∧ CmpOk GG g caps lt M ∧ insJ lt a j M = U ∧
      st = ⟨[], [(0, .sl 0), (1, .d (.int .i64 a)), (2, .d (.int .i64 b)), (3, .d (.fn g caps)), (8, .d (.int .i64 i)), (9, .d (.int .i64 j))], [(0, .arr 0 0 6 (rLease M))], 1⟩) _ ⟨i, L, rfl, by omega, by omega, hL, hcL, hU, ?_⟩ ?_
    · exact u_16
    rintro w st ⟨j, M, rfl, haj, hji, hM, hcM, hsM, rfl⟩
    by_cases hj : a < j
    · obtain ⟨j, rfl⟩ : ∃ j', j = j' + 1 := ⟨j - 1, by omega⟩
      have ha := List.getElem?_eq_getElem (show j + 1 < M.length by omega)
      have hb := List.getElem?_eq_getElem (show j < M.length by omega)
      have hma := List.getElem_mem (show j + 1 < M.length by omega)
      have hmb := List.getElem_mem (show j < M.length by omega)
      generalize M[j + 1] = x at ha hma
      generalize M[j] = y at hb hmb
      obtain ⟨v, cp, hv⟩ := hcM x y hma hmb
      rw [insJ, if_pos (by omega), ha, hb] at hsM
      simp only [] at hsM
      have e1 : IntKind.i64.wrap (((j + 1 : Nat) : Int) - 1) = (j : Nat) := by rw [wrap_id (by omega) (by omega)]; omega
      have e2 : IntKind.i64.wrap ((j : Int) + 1 - 1) = (j : Nat) := by rw [wrap_id (by omega) (by omega)]; omega
      have e4 : ((j : Int) + 1).toNat = j + 1 := by omega
      have e5 : IntKind.i64.wrap (j : Int) = j := wrap_id (by omega) (by omega)
      cases hxy : lt x y with
      | true =>
        rw [hxy] at hv
        rw [hxy, if_pos rfl] at hsM
        have hb2 := set_same (j + 1) hb
        have hw := sw2_eq ha hb
        have hcs := CmpOk.sw hcM (j + 1) j
        repeat' (first | refine W_seq ?_ | refine W_skip ?_ | refine W_block ?_ | refine W_exit ?_ | refine pick_pos rfl ?_ | refine pick_neg rfl ?_ | ((first | refine W_regP fun K hK => ?_ | refine W_regPD fun K hK => ?_ | refine W_ret ?_ | with_reducible refine callQ (cp) ?_); simp [Fin, ha, hb, hb2, hv, e1, e2, e4, e5, hw, rLease_setX]) | (with_reducible refine hK _ ?_; clear hK K) | (with_reducible refine goL_split (fun h => ?_) (fun h => ?_) <;> first | (exfalso; simp at h; first | done | omega | contradiction) | ((try simp at h); simp [ha, hb, hb2, hv, e1, e2, e4, e5, hw, rLease_setX])) | with_reducible refine And.intro ?_ ?_ | with_reducible exact okay_rfl rfl | with_reducible assumption | (refine W_cond rfl (fun h => ?_) (fun h => ?_) <;> first | (exfalso; simp at h; first | done | omega | contradiction) | (exfalso; simp_all; done) | (try simp at h)) | omega)
        refine ⟨j + 1, by omega, j, sw2 M (j + 1) j, rfl, by omega, by omega, by rw [sw2_len]; exact hM, hcs, hsM, ?_⟩
        exact u_16
      | false =>
        rw [hxy] at hv
        rw [hxy, if_neg (by simp)] at hsM
        subst hsM
        refine u_25 (Y8 ha hb hv e1 e2 e3 e4 e5) (Z1 cp) ?_
        refine ⟨b + 1 - (i + 1), by omega, i + 1, M, rfl, by omega, Or.inl (by omega), hM, hcM, hs, ?_⟩
        exact u_16
    · have : j = a := by omega
      subst this
      rw [insJ_stop] at hsM
      subst hsM
      refine u_15 e3 ?_
      refine ⟨b + 1 - (i + 1), by omega, i + 1, M, rfl, by omega, Or.inl (by omega), hM, hcM, hs, ?_⟩
      exact u_16
  · rw [show b - i = 0 by omega, insO] at hs
    subst hs
    refine u_23 ?_
    simp [Fin]
theorem mid_wrap (i j : Nat) (h1 : i ≤ 1048576) (h2 : j ≤ 1048576) : IntKind.i64.wrap ((IntKind.u64.wrap (IntKind.i64.wrap ((i : Int) + j))).fdiv 2) = ((i + j) / 2 : Nat) := by
  have e1 : IntKind.i64.wrap ((i : Int) + j) = (i : Int) + j := wrap_id (by omega) (by omega)
  have e2 : IntKind.u64.wrap ((i : Int) + j) = (i : Int) + j := by simp only [IntKind.wrap, IntKind.bits, IntKind.signed]; simp; omega
  rw [e1, e2, Int.fdiv_eq_ediv_of_nonneg _ (by omega), show ((i : Int) + j) / 2 = ((i + j) / 2 : Nat) by omega]
  exact wrap_id (by omega) (by omega)
theorem bsG_stop (f : Nat → Bool) (k : Nat) {i j : Nat} (h : ¬ i < j) : bsG f k i j = i := by
  cases k with
  | zero => rfl
  | succ k => rw [bsG, if_neg h]
theorem symOne_ok (k : Nat) (l : List GLease) (a b : Nat) (g : FuncId) (caps : List (List D)) (lt : GLease → GLease → Bool) (hc : CmpOk GG g caps lt l) (h1 : a + 1 < b) (h3 : b ≤ l.length) (hl : l.length ≤ 1048576) :
    Valid PP GG 183 [.own 0 6 (rLease l), .d (.int .i64 a), .d (.int .i64 ((a + 1 : Nat) : Int)), .d (.int .i64 b), .d (.fn g caps)] (.tup []) [some (.own 0 6 (rLease (symM lt (k + 1) a (a + 1) b l))), none, none, none, none] := by
  refine cv Tryz.func183 [] ?_
  generalize hT : symM lt (k + 1) a (a + 1) b l = T
  rw [symM, if_pos (by omega)] at hT
  unfold bs at hT
  generalize hs : bsG (fun h => ltA lt l h a) (b - (a + 1)) (a + 1) b = s at hT
  have e1 : IntKind.i64.wrap ((a : Int) + 1 - a) = 1 := by rw [wrap_id (by omega) (by omega)]; omega
  refine u_15 e1 ?_
  refine W_loop (fun w st => ∃ (i j f : Nat), w = f + 1 ∧ a + 1 ≤ i ∧ i ≤ j ∧ j ≤ b ∧ j - i ≤ f ∧ bsG (fun h => ltA lt l h a) f i j = s ∧
    st = ⟨[], [(0, .sl 0), (1, .d (.int .i64 a)), (4, .d (.fn g caps)), (10, .d (.int .i64 i)), (11, .d (.int .i64 j))], [(0, .arr 0 0 6 (rLease l))], 1⟩) _ ⟨a + 1, b, b - (a + 1), rfl, by omega, by omega, by omega, by omega, hs, ?_⟩ ?_
  · exact u_16
  rintro w st ⟨i, j, f, rfl, hi, hij, hj, hf, hs2, rfl⟩
  by_cases hlt : i < j
  · obtain ⟨f, rfl⟩ : ∃ f', f = f' + 1 := ⟨f - 1, by omega⟩
    rw [bsG, if_pos hlt] at hs2
    have eh := mid_wrap i j (by omega) (by omega)
    have hh : (i + j) / 2 < j := by omega
    have hh2 : i ≤ (i + j) / 2 := by omega
    generalize (i + j) / 2 = md at hs2 eh hh hh2
    have ha := List.getElem?_eq_getElem (show md < l.length by omega)
    have hb := List.getElem?_eq_getElem (show a < l.length by omega)
    have hma := List.getElem_mem (show md < l.length by omega)
    have hmb := List.getElem_mem (show a < l.length by omega)
    generalize l[md] = x at ha hma
    generalize l[a] = y at hb hmb
    obtain ⟨v, cp, hv⟩ := hc x y hma hmb
    simp only [ltA_app lt ha hb] at hs2
    have e6 : IntKind.i64.wrap ((md : Int) + 1) = (md + 1 : Nat) := by rw [wrap_id (by omega) (by omega)]; omega
    cases hxy : lt x y with
    | true =>
      rw [hxy] at hv
      rw [hxy, if_pos rfl] at hs2
      refine u_25 (Y5 ha hb hv eh e6) (Z1 cp) ?_
      refine ⟨f + 1, by omega, md + 1, j, f, rfl, by omega, by omega, by omega, by omega, hs2, ?_⟩
      exact u_16
    | false =>
      rw [hxy] at hv
      rw [hxy, if_neg (by simp)] at hs2
      refine u_25 (Y4 ha hb hv eh) (Z1 cp) ?_
      refine ⟨f + 1, by omega, i, md, f, rfl, by omega, by omega, by omega, by omega, hs2, ?_⟩
      exact u_16
  · rw [bsG_stop _ _ hlt] at hs2
    subst hs2
    have e7 : IntKind.i64.wrap ((i : Int) - 1) = (i : Int) - 1 := wrap_id (by omega) (by omega)
    refine u_23 ?_
    refine W_loop (fun w st => ∃ (q : Nat) (L : List GLease), w = i - q ∧ a ≤ q ∧ q + 1 ≤ i ∧ L.length = l.length ∧ upS (i - 1 - q) q L = T ∧
      st = ⟨[], [(0, .sl 0), (10, .d (.int .i64 i)), (13, .d (.int .i64 q))], [(0, .arr 0 0 6 (rLease L))], 1⟩) _ ⟨a, l, rfl, by omega, by omega, rfl, hT, ?_⟩ ?_
    · exact u_16
    rintro w st ⟨q, L, rfl, haq, hqi, hL, hsL, rfl⟩
    by_cases hq : q + 1 < i
    · have ha := List.getElem?_eq_getElem (show q < L.length by omega)
      have hb := List.getElem?_eq_getElem (show q + 1 < L.length by omega)
      generalize L[q] = x at ha
      generalize L[q + 1] = y at hb
      have hb2 := set_same q hb
      have hw := sw2_eq ha hb
      have e8 : IntKind.i64.wrap ((q : Int) + 1) = (q + 1 : Nat) := by rw [wrap_id (by omega) (by omega)]; omega
      have e9 : ((q : Int) + 1).toNat = q + 1 := by omega
      rw [show i - 1 - q = i - 1 - (q + 1) + 1 by omega, upS] at hsL
      refine u_51 (Y7 ha hb hb2 hw e7 e8 e9) ?_
      refine ⟨i - (q + 1), by omega, q + 1, sw2 L q (q + 1), rfl, by omega, by omega, by rw [sw2_len]; exact hL, hsL, ?_⟩
      exact u_16
    · rw [show i - 1 - q = 0 by omega, upS] at hsL
      subst hsL
      exact u_14 e7
theorem symLast_ok (k : Nat) (l : List GLease) (a m : Nat) (g : FuncId) (caps : List (List D)) (lt : GLease → GLease → Bool) (hc : CmpOk GG g caps lt l) (h1 : a + 1 < m) (h3 : m + 1 ≤ l.length) (hl : l.length ≤ 1048576) :
    Valid PP GG 183 [.own 0 6 (rLease l), .d (.int .i64 a), .d (.int .i64 m), .d (.int .i64 ((m + 1 : Nat) : Int)), .d (.fn g caps)] (.tup []) [some (.own 0 6 (rLease (symM lt (k + 1) a m (m + 1) l))), none, none, none, none] := by
  refine cv Tryz.func183 [] ?_
  generalize hT : symM lt (k + 1) a m (m + 1) l = T
  rw [symM, if_neg (by omega), if_pos (by omega)] at hT
  unfold bs at hT
  generalize hs : bsG (fun h => !ltA lt l m h) (m - a) a m = s at hT
  have e0 : IntKind.i64.wrap ((m : Int) - a) = (m : Int) - a := wrap_id (by omega) (by omega)
  have e1 : IntKind.i64.wrap ((m : Int) + 1 - m) = 1 := by rw [wrap_id (by omega) (by omega)]; omega
  have e2 : ((m : Int) - a == 1) = false := by rw [beq_eq_false_iff_ne]; omega
  refine u_15 (Y3 e0 e1 e2) ?_
  refine W_loop (fun w st => ∃ (i j f : Nat), w = f + 1 ∧ a ≤ i ∧ i ≤ j ∧ j ≤ m ∧ j - i ≤ f ∧ bsG (fun h => !ltA lt l m h) f i j = s ∧
    st = ⟨[], [(0, .sl 0), (2, .d (.int .i64 m)), (4, .d (.fn g caps)), (14, .d (.int .i64 i)), (15, .d (.int .i64 j))], [(0, .arr 0 0 6 (rLease l))], 1⟩) _ ⟨a, m, m - a, rfl, by omega, by omega, by omega, by omega, hs, ?_⟩ ?_
  · exact u_16
  rintro w st ⟨i, j, f, rfl, hi, hij, hj, hf, hs2, rfl⟩
  by_cases hlt : i < j
  · obtain ⟨f, rfl⟩ : ∃ f', f = f' + 1 := ⟨f - 1, by omega⟩
    rw [bsG, if_pos hlt] at hs2
    have eh := mid_wrap i j (by omega) (by omega)
    have hh : (i + j) / 2 < j := by omega
    have hh2 : i ≤ (i + j) / 2 := by omega
    generalize (i + j) / 2 = md at hs2 eh hh hh2
    have ha := List.getElem?_eq_getElem (show m < l.length by omega)
    have hb := List.getElem?_eq_getElem (show md < l.length by omega)
    have hma := List.getElem_mem (show m < l.length by omega)
    have hmb := List.getElem_mem (show md < l.length by omega)
    generalize l[m] = x at ha hma
    generalize l[md] = y at hb hmb
    obtain ⟨v, cp, hv⟩ := hc x y hma hmb
    simp only [ltA_app lt ha hb] at hs2
    have e6 : IntKind.i64.wrap ((md : Int) + 1) = (md + 1 : Nat) := by rw [wrap_id (by omega) (by omega)]; omega
    cases hxy : lt x y with
    | true =>
      rw [hxy] at hv
      rw [hxy, if_neg (by simp)] at hs2
      refine u_25 (Y4 ha hb hv eh) (Z1 cp) ?_
      refine ⟨f + 1, by omega, i, md, f, rfl, by omega, by omega, by omega, by omega, hs2, ?_⟩
      exact u_16
    | false =>
      rw [hxy] at hv
      rw [hxy, if_pos (by simp)] at hs2
      refine u_25 (Y5 ha hb hv eh e6) (Z1 cp) ?_
      refine ⟨f + 1, by omega, md + 1, j, f, rfl, by omega, by omega, by omega, by omega, hs2, ?_⟩
      exact u_16
  · rw [bsG_stop _ _ hlt] at hs2
    subst hs2
    refine u_23 ?_
    refine W_loop (fun w st => ∃ (q : Nat) (L : List GLease), w = q + 1 ∧ i ≤ q ∧ q ≤ m ∧ L.length = l.length ∧ dnS (q - i) q L = T ∧
      st = ⟨[], [(0, .sl 0), (14, .d (.int .i64 i)), (17, .d (.int .i64 q))], [(0, .arr 0 0 6 (rLease L))], 1⟩) _ ⟨m, l, rfl, by omega, by omega, rfl, hT, ?_⟩ ?_
    · exact u_16
    rintro w st ⟨q, L, rfl, haq, hqi, hL, hsL, rfl⟩
    by_cases hq : i < q
    · obtain ⟨q, rfl⟩ : ∃ q', q = q' + 1 := ⟨q - 1, by omega⟩
      have ha := List.getElem?_eq_getElem (show q + 1 < L.length by omega)
      have hb := List.getElem?_eq_getElem (show q < L.length by omega)
      generalize L[q + 1] = x at ha
      generalize L[q] = y at hb
      have hb2 := set_same (q + 1) hb
      have hw := sw2_eq ha hb
      have e7 : IntKind.i64.wrap (((q + 1 : Nat) : Int) - 1) = (q : Nat) := by rw [wrap_id (by omega) (by omega)]; omega
      have e8 : IntKind.i64.wrap ((q : Int) + 1 - 1) = (q : Nat) := by rw [wrap_id (by omega) (by omega)]; omega
      have e9 : ((q : Int) + 1).toNat = q + 1 := by omega
      have e10 : IntKind.i64.wrap (q : Int) = q := wrap_id (by omega) (by omega)
      rw [show q + 1 - i = q - i + 1 by omega, dnS, Nat.add_sub_cancel] at hsL
      refine u_51 (Y8 ha hb hb2 hw e7 e8 e9 e10) ?_
      refine ⟨q + 1, by omega, q, sw2 L (q + 1) q, rfl, by omega, by omega, by rw [sw2_len]; exact hL, hsL, ?_⟩
      exact u_16
    · rw [show q - i = 0 by omega, dnS] at hsL
      subst hsL
      exact u_21
theorem swR_mem {α : Type} {z : α} (a b : Nat) : ∀ (k i : Nat) (l : List α), z ∈ swR a b k i l → z ∈ l
  | 0, _, l, h => h
  | k + 1, i, l, h => sw2_mem (swR_mem a b k (i + 1) _ h)
theorem rotG_mem {α : Type} {z : α} (m : Nat) : ∀ (k i j : Nat) (l : List α), z ∈ rotG m k i j l → z ∈ l
  | 0, _, _, l, h => h
  | k + 1, i, j, l, h => by
    rw [rotG] at h
    split at h
    · exact swR_mem _ _ _ _ _ h
    · split at h
      · exact swR_mem _ _ _ _ _ (rotG_mem m k _ _ _ h)
      · exact swR_mem _ _ _ _ _ (rotG_mem m k _ _ _ h)
theorem upS_mem {α : Type} {z : α} : ∀ (k i : Nat) (l : List α), z ∈ upS k i l → z ∈ l
  | 0, _, l, h => h
  | k + 1, i, l, h => sw2_mem (upS_mem k (i + 1) _ h)
theorem dnS_mem {α : Type} {z : α} : ∀ (k i : Nat) (l : List α), z ∈ dnS k i l → z ∈ l
  | 0, _, l, h => h
  | k + 1, i, l, h => sw2_mem (dnS_mem k (i - 1) _ h)
theorem symC_mem {α : Type} {z : α} (p : Prop) [Decidable p] (f : List α → List α) (l : List α) (hf : ∀ l, z ∈ f l → z ∈ l) (h : z ∈ symC p f l) : z ∈ l := by
  unfold symC at h
  split at h
  · exact hf l h
  · exact h
theorem symM_mem {α : Type} {z : α} (lt : α → α → Bool) : ∀ (k a m b : Nat) (l : List α), z ∈ symM lt k a m b l → z ∈ l
  | 0, _, _, _, l, h => h
  | k + 1, a, m, b, l, h => by
    rw [symM] at h
    split at h
    · exact upS_mem _ _ _ h
    split at h
    · exact dnS_mem _ _ _ h
    unfold symR at h
    exact symC_mem _ _ _ (fun l => rotG_mem _ _ _ _ l) (symC_mem _ _ _ (symM_mem lt k _ _ _) (symC_mem _ _ _ (symM_mem lt k _ _ _) h))
theorem CmpOk.sub {g : FuncId} {caps : List (List D)} {lt : GLease → GLease → Bool} {a a' : List GLease} (h : CmpOk GG g caps lt a) (hs : ∀ z, z ∈ a' → z ∈ a) : CmpOk GG g caps lt a' := fun x y hx hy => h x y (hs x hx) (hs y hy)
theorem symMerge_ok (g : FuncId) (caps : List (List D)) (lt : GLease → GLease → Bool) : ∀ (k : Nat) (l : List GLease) (a m b : Nat) (hc : CmpOk GG g caps lt l) (hk : b - a ≤ k) (h1 : a < m) (h2 : m < b) (h3 : b ≤ l.length) (hl : l.length ≤ 1048576),
    Valid PP GG 183 [.own 0 6 (rLease l), .d (.int .i64 a), .d (.int .i64 m), .d (.int .i64 b), .d (.fn g caps)] (.tup []) [some (.own 0 6 (rLease (symM lt k a m b l))), none, none, none, none] := by
  intro k
  induction k with
  | zero => intro l a m b hc hk h1 h2; omega
  | succ k ih =>
  intro l a m b hc hk h1 h2 h3 hl
  by_cases c1 : m = a + 1
  · subst c1; exact symOne_ok k l a b g caps lt hc h2 h3 hl
  by_cases c2 : b = m + 1
  · subst c2; exact symLast_ok k l a m g caps lt hc (by omega) h3 hl
  refine cv Tryz.func183 [] ?_
  have hcut := symM_cut (lt := lt) a m b l h1 h2
  generalize hT : symM lt (k + 1) a m b l = T
  rw [symM, if_neg (by omega), if_neg (by omega)] at hT
  generalize hS : symS lt a m b l = s at hT hcut
  unfold symR at hT
  unfold symS at hS
  have eh := mid_wrap a b (by omega) (by omega)
  have hm1 : 2 * ((a + b) / 2) ≤ a + b := by omega
  have hm2 : a + b ≤ 2 * ((a + b) / 2) + 1 := by omega
  generalize (a + b) / 2 = mid at *
  obtain ⟨g1, g2, g3, g4, -, -⟩ := hcut
  generalize he : mid + m - s = e at hT
  have e0 : IntKind.i64.wrap ((m : Int) - a) = (m : Int) - a := wrap_id (by omega) (by omega)
  have e1 : IntKind.i64.wrap ((b : Int) - m) = (b : Int) - m := wrap_id (by omega) (by omega)
  have e2 : ((m : Int) - a == 1) = false := by rw [beq_eq_false_iff_ne]; omega
  have e3 : ((b : Int) - m == 1) = false := by rw [beq_eq_false_iff_ne]; omega
  have e4 : IntKind.i64.wrap ((mid : Int) + m) = (mid + m : Nat) := by rw [wrap_id (by omega) (by omega)]; omega
  have e6 : IntKind.i64.wrap (((mid + m : Nat) : Int) - 1) = (mid + m - 1 : Nat) := by rw [wrap_id (by omega) (by omega)]; omega
  have e7 : IntKind.i64.wrap (((mid + m : Nat) : Int) - s) = (e : Nat) := by rw [wrap_id (by omega) (by omega)]; omega
  generalize hn : mid + m = n at *
  refine W_cut [0, 1, 2, 3, 4] (fun st => st = ⟨[], [(0, .sl 0), (1, .d (.int .i64 a)), (2, .d (.int .i64 m)), (3, .d (.int .i64 b)), (4, .d (.fn g caps))], [(0, .arr 0 0 6 (rLease l))], 1⟩) ?_ ?_
  · refine u_15 (Y2 e0 e2) ?_
    exact u_16
  rintro st rfl
  refine W_cut [0, 1, 2, 3, 4] (fun st => st = ⟨[], [(0, .sl 0), (1, .d (.int .i64 a)), (2, .d (.int .i64 m)), (3, .d (.int .i64 b)), (4, .d (.fn g caps))], [(0, .arr 0 0 6 (rLease l))], 1⟩) ?_ ?_
  · refine u_15 (Y2 e1 e3) ?_
    exact u_16
  rintro st rfl
  refine u_22 eh ?_
  refine u_22 e4 ?_
  refine u_1 ?_
  refine W_cut [0, 1, 2, 3, 4, 18, 19, 20, 21] (fun st => ∃ lo hi : Nat, a ≤ lo ∧ lo ≤ hi ∧ hi ≤ m ∧ hi ≤ mid ∧ n - b ≤ lo ∧ bs (fun c => !ltA lt l (n - 1 - c) c) lo hi = s ∧
    st = ⟨[], [(0, .sl 0), (1, .d (.int .i64 a)), (2, .d (.int .i64 m)), (3, .d (.int .i64 b)), (4, .d (.fn g caps)), (18, .d (.int .i64 mid)), (19, .d (.int .i64 n)), (20, .d (.int .i64 lo)), (21, .d (.int .i64 hi))], [(0, .arr 0 0 6 (rLease l))], 1⟩) ?_ ?_
  · by_cases hmm : mid < m
    · rw [if_pos hmm] at hS
      have e5 : IntKind.i64.wrap ((n : Int) - b) = (n - b : Nat) := by rw [wrap_id (by omega) (by omega)]; omega
      refine u_15 e5 ?_
      refine ⟨n - b, mid, by omega, by omega, by omega, by omega, by omega, hS, ?_⟩
      exact u_16
    · rw [if_neg hmm] at hS
      refine u_23 ?_
      refine ⟨a, m, by omega, by omega, by omega, by omega, by omega, hS, ?_⟩
      exact u_16
  clear hS
  rintro st ⟨lo, hi, o1, o2, o3, o4, o5, hS, rfl⟩
  unfold bs at hS
  refine u_22 e6 ?_
  refine W_cut [0, 1, 2, 3, 4, 18, 19, 20] (fun st => st = ⟨[], [(0, .sl 0), (1, .d (.int .i64 a)), (2, .d (.int .i64 m)), (3, .d (.int .i64 b)), (4, .d (.fn g caps)), (18, .d (.int .i64 mid)), (19, .d (.int .i64 n)), (20, .d (.int .i64 s))], [(0, .arr 0 0 6 (rLease l))], 1⟩) ?_ ?_
  · refine u_23 ?_
    refine W_loop (fun w st => ∃ (i j f : Nat), w = f + 1 ∧ lo ≤ i ∧ i ≤ j ∧ j ≤ hi ∧ j - i ≤ f ∧ bsG (fun c => !ltA lt l (n - 1 - c) c) f i j = s ∧
      st = ⟨[], [(0, .sl 0), (1, .d (.int .i64 a)), (2, .d (.int .i64 m)), (3, .d (.int .i64 b)), (4, .d (.fn g caps)), (18, .d (.int .i64 mid)), (19, .d (.int .i64 n)), (20, .d (.int .i64 i)), (21, .d (.int .i64 j)), (22, .d (.int .i64 ((n - 1 : Nat) : Int)))], [(0, .arr 0 0 6 (rLease l))], 1⟩) _ ⟨lo, hi, hi - lo, rfl, by omega, by omega, by omega, by omega, hS, ?_⟩ ?_
    · exact u_16
    rintro w st ⟨i, j, f, rfl, hil, hij, hjh, hf, hs2, rfl⟩
    by_cases hlt : i < j
    · obtain ⟨f, rfl⟩ : ∃ f', f = f' + 1 := ⟨f - 1, by omega⟩
      rw [bsG, if_pos hlt] at hs2
      have e10 := mid_wrap i j (by omega) (by omega)
      have hh : (i + j) / 2 < j := by omega
      have hh2 : i ≤ (i + j) / 2 := by omega
      generalize (i + j) / 2 = md at hs2 e10 hh hh2
      have ha := List.getElem?_eq_getElem (show n - 1 - md < l.length by omega)
      have hb := List.getElem?_eq_getElem (show md < l.length by omega)
      have hma := List.getElem_mem (show n - 1 - md < l.length by omega)
      have hmb := List.getElem_mem (show md < l.length by omega)
      generalize l[n - 1 - md] = x at ha hma
      generalize l[md] = y at hb hmb
      obtain ⟨v, cp, hv⟩ := hc x y hma hmb
      simp only [ltA_app lt ha hb] at hs2
      have e11 : IntKind.i64.wrap ((md : Int) + 1) = (md + 1 : Nat) := by rw [wrap_id (by omega) (by omega)]; omega
      have e12 : IntKind.i64.wrap (((n - 1 : Nat) : Int) - md) = (n - 1 - md : Nat) := by rw [wrap_id (by omega) (by omega)]; omega
      cases hxy : lt x y with
      | true =>
        rw [hxy] at hv
        rw [hxy, if_neg (by simp)] at hs2
        refine u_25 (Y5 ha hb hv e10 e12) (Z1 cp) ?_
        refine ⟨f + 1, by omega, i, md, f, rfl, by omega, by omega, by omega, by omega, hs2, ?_⟩
        exact u_16
      | false =>
        rw [hxy] at hv
        rw [hxy, if_pos (by simp)] at hs2
        refine u_25 (Y6 ha hb hv e10 e11 e12) (Z1 cp) ?_
        refine ⟨f + 1, by omega, md + 1, j, f, rfl, by omega, by omega, by omega, by omega, hs2, ?_⟩
        exact u_16
    · rw [bsG_stop _ _ hlt] at hs2
      subst hs2
      refine u_23 ?_
      exact u_16
  rintro st rfl
  refine u_22 e7 ?_
  refine W_cut [0, 1, 3, 4, 18, 20, 24] (fun st => st = ⟨[], [(0, .sl 0), (1, .d (.int .i64 a)), (3, .d (.int .i64 b)), (4, .d (.fn g caps)), (18, .d (.int .i64 mid)), (20, .d (.int .i64 s)), (24, .d (.int .i64 e))], [(0, .arr 0 0 6 (rLease (symC (s < m ∧ m < e) (rot s m e) l)))], 1⟩) ?_ ?_
  · unfold symC
    by_cases hr : s < m ∧ m < e
    · rw [if_pos hr]
      obtain ⟨hr1, hr2⟩ := hr
      have cr := rotate_ok (GG := GG) l s m e g caps hr1 hr2 (by omega) hl
      refine u_30 (Z1 cr) ?_
      exact u_16
    · rw [if_neg hr]
      by_cases hr1 : s < m
      · have hr2 : ¬ m < e := fun h => hr ⟨hr1, h⟩
        refine u_23 ?_
        exact u_16
      · refine u_23 ?_
        exact u_16
  rintro st rfl
  have hL1 : ∀ z, z ∈ symC (s < m ∧ m < e) (rot s m e) l → z ∈ l := fun z hz => symC_mem _ _ _ (fun l => rotG_mem _ _ _ _ l) hz
  have hl1 : (symC (s < m ∧ m < e) (rot s m e) l).length = l.length := symC_len _ _ _ (rot_len _ _ _)
  generalize symC (s < m ∧ m < e) (rot s m e) l = L1 at *
  have hc1 := CmpOk.sub hc hL1
  refine W_cut [0, 3, 4, 18, 24] (fun st => st = ⟨[], [(0, .sl 0), (3, .d (.int .i64 b)), (4, .d (.fn g caps)), (18, .d (.int .i64 mid)), (24, .d (.int .i64 e))], [(0, .arr 0 0 6 (rLease (symC (a < s ∧ s < mid) (symM lt k a s mid) L1)))], 1⟩) ?_ ?_
  · unfold symC
    by_cases hr : a < s ∧ s < mid
    · rw [if_pos hr]
      obtain ⟨hr1, hr2⟩ := hr
      have cr := ih L1 a s mid hc1 (by omega) hr1 hr2 (by omega) (by omega)
      refine u_30 (Z1 cr) ?_
      exact u_16
    · rw [if_neg hr]
      by_cases hr1 : a < s
      · have hr2 : ¬ s < mid := fun h => hr ⟨hr1, h⟩
        refine u_23 ?_
        exact u_16
      · refine u_23 ?_
        exact u_16
  rintro st rfl
  have hL2 : ∀ z, z ∈ symC (a < s ∧ s < mid) (symM lt k a s mid) L1 → z ∈ L1 := fun z hz => symC_mem _ _ _ (symM_mem lt k _ _ _) hz
  have hl2 : (symC (a < s ∧ s < mid) (symM lt k a s mid) L1).length = L1.length := symC_len _ _ _ (symM_len lt k _ _ _)
  generalize symC (a < s ∧ s < mid) (symM lt k a s mid) L1 = L2 at *
  have hc2 := CmpOk.sub hc1 hL2
  unfold symC at hT
  by_cases hr : mid < e ∧ e < b
  · rw [if_pos hr] at hT
    obtain ⟨hr1, hr2⟩ := hr
    have cr := ih L2 mid e b hc2 (by omega) hr1 hr2 (by omega) (by omega)
    rw [hT] at cr
    refine u_30 (Z1 cr) ?_
    simp [Fin]
  · rw [if_neg hr] at hT
    subst hT
    by_cases hr1 : mid < e
    · have hr2 : ¬ e < b := fun h => hr ⟨hr1, h⟩
      refine u_23 ?_
      simp [Fin]
    · refine u_23 ?_
      simp [Fin]
theorem insJ_mem {α : Type} {z : α} (lt : α → α → Bool) (a : Nat) : ∀ (j : Nat) (l : List α), z ∈ insJ lt a j l → z ∈ l
  | 0, l, h => h
  | j + 1, l, h => by
    rw [insJ] at h
    split at h
    · split at h
      · split at h
        · exact sw2_mem (insJ_mem lt a j _ h)
        · exact h
      · exact h
    · exact h
theorem insO_mem {α : Type} {z : α} (lt : α → α → Bool) (a : Nat) : ∀ (k i : Nat) (l : List α), z ∈ insO lt a k i l → z ∈ l
  | 0, _, l, h => h
  | k + 1, i, l, h => insJ_mem lt a i _ (insO_mem lt a k (i + 1) _ h)
theorem stIns_stop {α : Type} (lt : α → α → Bool) (n k a : Nat) (l : List α) (h : ¬ a + 20 ≤ n) : stIns lt n k a l = insS lt a n l := by
  cases k with
  | zero => rfl
  | succ k => rw [stIns, if_neg h]
theorem stMrg_stop {α : Type} (lt : α → α → Bool) (n s k a : Nat) (l : List α) (h : ¬ a + 2 * s ≤ n) (hk : n ≤ a + k) : stMrg lt n s k a l = symC (a + s < n) (symM lt (n - a) a (a + s) n) l := by
  cases k with
  | zero => rw [stMrg, symC, if_neg (by omega)]
  | succ k => rw [stMrg, if_neg h]; rfl
theorem stGo_stop {α : Type} (lt : α → α → Bool) (n k s : Nat) (l : List α) (h : ¬ s < n) : stGo lt n k s l = l := by
  cases k with
  | zero => rfl
  | succ k => rw [stGo, if_neg h]
theorem stable_ok (l : List GLease) (g : FuncId) (caps : List (List D)) (lt : GLease → GLease → Bool) (hc : CmpOk GG g caps lt l) (hl : l.length ≤ 1000000) :
    Valid PP GG 156 [.own 0 6 (rLease l), .d (.int .i64 l.length), .d (.fn g caps)] (.tup []) [some (.own 0 6 (rLease (stable lt l))), none, none] := by
  refine cv Tryz.func156 [] ?_
  generalize hT : stable lt l = T
  unfold stable at hT
  generalize hU : stIns lt l.length l.length 0 l = U at hT
  have hUl : U.length = l.length := by rw [← hU, stIns_len]
  generalize hn : l.length = n at *
  refine u_23 ?_
  refine W_loop (fun w st => ∃ (a k : Nat) (L : List GLease), w = n + 1 - a ∧ a ≤ n ∧ n ≤ a + k ∧ L.length = n ∧ CmpOk GG g caps lt L ∧ stIns lt n k a L = U ∧
    st = ⟨[], [(0, .sl 0), (1, .d (.int .i64 n)), (2, .d (.fn g caps)), (6, .d (.int .i64 20)), (7, .d (.int .i64 a)), (8, .d (.int .i64 ((a + 20 : Nat) : Int)))], [(0, .arr 0 0 6 (rLease L))], 1⟩) _ ⟨0, n, l, rfl, by omega, by omega, hn, hc, hU, ?_⟩ ?_
  · exact u_16
  rintro w st ⟨a, k, L, rfl, han, hk, hL, hcL, hs, rfl⟩
  have e1 : IntKind.i64.wrap (((a + 20 : Nat) : Int) + 20) = (a + 20 + 20 : Nat) := by rw [wrap_id (by omega) (by omega)]; omega
  have e2 : IntKind.i64.wrap ((a : Int) + 20 + 20) = (a + 20 + 20 : Nat) := by rw [wrap_id (by omega) (by omega)]; omega
  by_cases hb : a + 20 ≤ n
  · obtain ⟨k, rfl⟩ : ∃ k', k = k' + 1 := ⟨k - 1, by omega⟩
    rw [stIns, if_pos hb] at hs
    have cr := insertion_ok (GG := GG) L a (a + 20) g caps lt hcL (by omega) (by omega) (by omega)
    have cr2 : ((a + 20 : Nat) : Int) = (a : Int) + 20 := by omega
    rw [cr2] at cr
    clear cr2
    have hcs : CmpOk GG g caps lt (insS lt a (a + 20) L) := CmpOk.sub hcL (fun z => insO_mem (z := z) lt a _ _ L)
    refine u_25 (Y2 e1 e2) (Z1 cr) ?_
    refine ⟨n + 1 - (a + 20), by omega, a + 20, k, insS lt a (a + 20) L, rfl, by omega, by omega, by rw [insS_len]; exact hL, hcs, hs, ?_⟩
    exact u_16
  · rw [stIns_stop _ _ _ _ _ hb] at hs
    have cr := insertion_ok (GG := GG) L a n g caps lt hcL (by omega) (by omega) (by omega)
    have hcU := CmpOk.sub hcL (fun z => insO_mem (z := z) lt a (n - (a + 1)) (a + 1) L)
    rw [hs] at cr
    have hcU : CmpOk GG g caps lt U := by rw [← hs]; exact hcU
    refine u_30 (Z1 cr) ?_
    refine W_loop (fun w st => ∃ (s k : Nat) (L : List GLease), w = n + 1 - s ∧ 0 < s ∧ s ≤ 2 * n + 20 ∧ n ≤ s + k ∧ L.length = n ∧ CmpOk GG g caps lt L ∧ stGo lt n k s L = T ∧
      st = ⟨[], [(0, .sl 0), (1, .d (.int .i64 n)), (2, .d (.fn g caps)), (6, .d (.int .i64 s))], [(0, .arr 0 0 6 (rLease L))], 1⟩) _ ⟨20, n, U, rfl, by omega, by omega, by omega, hUl, hcU, hT, ?_⟩ ?_
    · exact u_16
    clear e1 e2 hb hcL cr han
    rintro w st ⟨s, k, L, rfl, hs0, hs20, hk, hL, hcL, hs, rfl⟩
    by_cases hsn : s < n
    · obtain ⟨k, rfl⟩ : ∃ k', k = k' + 1 := ⟨k - 1, by omega⟩
      rw [stGo, if_pos hsn] at hs
      generalize hV : stMrg lt n s n 0 L = V at hs
      have hVl : V.length = n := by rw [← hV, stMrg_len]; exact hL
      have e3 : IntKind.i64.wrap (2 * (s : Int)) = 2 * (s : Int) := wrap_id (by omega) (by omega)
      have e6 : IntKind.i64.wrap ((s : Int) * 2) = 2 * (s : Int) := by rw [wrap_id (by omega) (by omega)]; omega
      refine u_15 e3 ?_
      refine W_loop (fun w st => ∃ (a f : Nat) (M : List GLease), w = n + 1 - a ∧ a ≤ n ∧ n ≤ a + f ∧ M.length = n ∧ CmpOk GG g caps lt M ∧ stMrg lt n s f a M = V ∧
        st = ⟨[], [(0, .sl 0), (1, .d (.int .i64 n)), (2, .d (.fn g caps)), (6, .d (.int .i64 s)), (7, .d (.int .i64 a)), (8, .d (.int .i64 ((a : Int) + 2 * (s : Int))))], [(0, .arr 0 0 6 (rLease M))], 1⟩) _ ⟨0, n, L, rfl, by omega, by omega, hL, hcL, hV, ?_⟩ ?_
      · exact u_16
      clear hV hcL
      rintro w st ⟨a, f, M, rfl, han, hf, hM, hcM, hs2, rfl⟩
      have e4 : IntKind.i64.wrap ((a : Int) + s) = (a : Int) + s := wrap_id (by omega) (by omega)
      by_cases hb : a + 2 * s ≤ n
      · obtain ⟨f, rfl⟩ : ∃ f', f = f' + 1 := ⟨f - 1, by omega⟩
        rw [stMrg, if_pos hb] at hs2
        have e5 : IntKind.i64.wrap ((a : Int) + 2 * (s : Int) + 2 * (s : Int)) = (a : Int) + 2 * (s : Int) + 2 * (s : Int) := wrap_id (by omega) (by omega)
        have cr := symMerge_ok (GG := GG) g caps lt (2 * s) M a (a + s) (a + 2 * s) hcM (by omega) (by omega) (by omega) (by omega) (by omega)
        rw [show ((a + s : Nat) : Int) = (a : Int) + s by omega, show ((a + 2 * s : Nat) : Int) = (a : Int) + 2 * (s : Int) by omega] at cr
        have hcs : CmpOk GG g caps lt (symM lt (2 * s) a (a + s) (a + 2 * s) M) := CmpOk.sub hcM (fun z => symM_mem (z := z) lt _ _ _ _ M)
        refine u_25 (Y3 e3 e4 e5) (Z1 cr) ?_
        refine ⟨n + 1 - (a + 2 * s), by omega, a + 2 * s, f, symM lt (2 * s) a (a + s) (a + 2 * s) M, rfl, by omega, by omega, by rw [symM_len]; exact hM, hcs, hs2, ?_⟩
        exact u_16
      · rw [stMrg_stop _ _ _ _ _ _ hb hf] at hs2
        unfold symC at hs2
        by_cases hm : a + s < n
        · rw [if_pos hm] at hs2
          have cr := symMerge_ok (GG := GG) g caps lt (n - a) M a (a + s) n hcM (by omega) (by omega) (by omega) (by omega) (by omega)
          rw [hs2, show ((a + s : Nat) : Int) = (a : Int) + s by omega] at cr
          have hcs : CmpOk GG g caps lt V := by rw [← hs2]; exact CmpOk.sub hcM (fun z => symM_mem (z := z) lt _ _ _ _ M)
          refine u_25 (Y2 e4 e6) (Z1 cr) ?_
          refine ⟨n + 1 - 2 * s, by omega, 2 * s, k, V, rfl, by omega, by omega, by omega, hVl, hcs, hs, ?_⟩
          exact u_16
        · rw [if_neg hm] at hs2
          subst hs2
          refine u_15 (Y2 e4 e6) ?_
          refine ⟨n + 1 - 2 * s, by omega, 2 * s, k, M, rfl, by omega, by omega, by omega, hVl, hcM, hs, ?_⟩
          exact u_16
    · rw [stGo_stop _ _ _ _ _ hsn] at hs
      subst hs
      refine u_23 ?_
      simp [Fin]
def ltE (x y : GLease) : Bool := decide (x.fEnds < y.fEnds)
def cmpI (x y : Int) : Int := if x < y then -1 else if y < x then 1 else 0
theorem cmpI_neg (x y : Int) : decide (cmpI x y < 0) = decide (x < y) := by
  unfold cmpI
  split
  · rename_i h; simp [h]
  · rename_i h
    split <;> simp [h]
theorem isNaNInt_ok (x : Int) : Valid PP GG 157 [.d (.int .i64 x)] (.d (.bool false)) [none] := by
  refine cv Tryz.func157 [.d (.bool false)] ?_
  have hx : (x != x) = false := by simp
  exact u_14 hx
theorem CompareInt_ok (x y : Int) : Valid PP GG 132 [.d (.int .i64 x), .d (.int .i64 y)] (.d (.int .i64 (cmpI x y))) [none, none] := by
  refine cv Tryz.func132 [.d (.int .i64 (cmpI x y))] ?_
  have c1 := isNaNInt_ok (GG := GG) x
  have c2 := isNaNInt_ok (GG := GG) y
  by_cases h : x < y
  · have e : cmpI x y = -1 := by unfold cmpI; rw [if_pos h]
    rw [e]
    exact u_26 (Z2 c1 c2)
  · by_cases h2 : y < x
    · have e : cmpI x y = 1 := by unfold cmpI; rw [if_neg h, if_pos h2]
      rw [e]
      exact u_26 (Z2 c1 c2)
    · have e : cmpI x y = 0 := by unfold cmpI; rw [if_neg h, if_neg h2]
      rw [e]
      exact u_26 (Z2 c1 c2)
theorem dropOver_c2_ok (x y : GLease) : Valid PP GG 131 [.agg x.c, .agg y.c] (.d (.int .i64 (cmpI x.fEnds y.fEnds))) [none, none] := by
  refine cv Tryz.func131 [.d (.int .i64 (cmpI x.fEnds y.fEnds))] ?_
  have cc := CompareInt_ok (GG := GG) x.fEnds y.fEnds
  exact u_26 (Z1 cc)
theorem dropOver_cmp (a : List GLease) : CmpOk GG 131 [] ltE a := fun x y _ _ => ⟨_, dropOver_c2_ok x y, cmpI_neg _ _⟩
theorem SortStable_ok (l : List GLease) (g : FuncId) (caps : List (List D)) (lt : GLease → GLease → Bool) (hc : CmpOk GG g caps lt l) (hl : l.length ≤ 1000000) :
    Valid PP GG 130 [.own 0 6 (rLease l), .d (.fn g caps)] (.tup []) [some (.own 0 6 (rLease (stable lt l))), none] := by
  refine cv Tryz.func130 [] ?_
  have cs := stable_ok (GG := GG) l g caps lt hc hl
  refine u_30 (Z1 cs) ?_
  try simp [Fin]
theorem dropOver_c1_ok (l : GLease) (now : Int) : Valid PP GG 129 [.agg l.c, .rp [.int .i64 now]] (.d (.bool (decide (l.fEnds ≤ now)))) [none] := by
  refine cv Tryz.func129 [.d (.bool (decide (l.fEnds ≤ now)))] ?_
  exact u_21
def keepO (b : GBook) (now : Int) : GBook := ⟨b.fLeases.filter fun l => !decide (l.fEnds ≤ now)⟩
def overO (b : GBook) (now : Int) : List GLease := stable ltE (b.fLeases.filter fun l => decide (l.fEnds ≤ now))
theorem dropOver_ok (b : GBook) (now : Int) (hl : b.fLeases.length ≤ 1000000) :
    Valid PP GG 80 [.agg b.c, .d (.int .i64 now)] (.tup [.agg (keepO b now).o, .own 0 6 (rLease (overO b now))]) [none, none] := by
  refine cv Tryz.func80 [.agg (keepO b now).o, .own 0 6 (rLease (overO b now))] ?_
  have cd := dropLeases_ok (GG := GG) b.fLeases 129 [[.int .i64 now]] (fun l => decide (l.fEnds ≤ now)) (by omega) fun x _ => dropOver_c1_ok x now
  have hfl : (b.fLeases.filter fun l => decide (l.fEnds ≤ now)).length ≤ b.fLeases.length := List.length_filter_le _ _
  have hK : keepO b now = ⟨b.fLeases.filter fun l => !decide (l.fEnds ≤ now)⟩ := rfl
  have hO : overO b now = stable ltE (b.fLeases.filter fun l => decide (l.fEnds ≤ now)) := rfl
  rw [hK, hO]
  clear hK hO
  have hi1 := ind_rLease (b.fLeases.filter fun l => !decide (l.fEnds ≤ now))
  have hi2 := ind_rLease (stable ltE (b.fLeases.filter fun l => decide (l.fEnds ≤ now)))
  have hi3 := ind_rLease (b.fLeases.filter fun l => decide (l.fEnds ≤ now))
  generalize (b.fLeases.filter fun l => decide (l.fEnds ≤ now)) = G at *
  generalize (b.fLeases.filter fun l => !decide (l.fEnds ≤ now)) = K at *
  have cs := SortStable_ok (GG := GG) G 131 [] ltE (dropOver_cmp G) (by omega)
  generalize stable ltE G = S at *
  exact u_26 (Z2 cd cs)
def ordE (x u : GLease) : Prop := x.fEnds < u.fEnds ∨ x.fEnds = u.fEnds ∧ x.fId < u.fId
theorem ordE_tr (a b c : GLease) (h1 : ordE a b) (h2 : ordE b c) : ordE a c := by unfold ordE at *; omega
def sweepF (f : GForest) (now : Int) : List Int := (wo (fun t => overB t.fEnds now) f.fTokens).2
structure GTold where
  fTokens : List Int
  fLeases : List Int
  fGone : List (List UInt8)
  fGiven : List (List UInt8)
  deriving DecidableEq
@[simp] abbrev GTold.row (x : GTold) : List D := [.slc 1 (intsD x.fTokens), .slc 1 (intsD x.fLeases), .slc 1 (strsD x.fGone), .slc 1 (strsD x.fGiven)]
@[simp] abbrev GTold.c (x : GTold) : List C := [.d (.slc 1 (intsD x.fTokens)), .d (.slc 1 (intsD x.fLeases)), .d (.slc 1 (strsD x.fGone)), .d (.slc 1 (strsD x.fGiven))]
@[simp] abbrev GTold.o (x : GTold) : List C := [.own 0 1 (intsD x.fTokens), .own 0 1 (intsD x.fLeases), .own 0 1 (strsD x.fGone), .own 0 1 (strsD x.fGiven)]
def GTold.cost (x : GTold) : Nat := x.fTokens.length + x.fLeases.length + (x.fGone.length + sumBy List.length x.fGone) + (x.fGiven.length + sumBy List.length x.fGiven)
def GTold.ok (x : GTold) : Prop := x.fTokens.length ≤ maxLen ∧ (∀ y, y ∈ x.fTokens → int64 y) ∧ x.fLeases.length ≤ maxLen ∧ (∀ y, y ∈ x.fLeases → int64 y) ∧ x.fGone.length ≤ maxLen ∧ (∀ y, y ∈ x.fGone → y.length ≤ maxLen) ∧ x.fGiven.length ≤ maxLen ∧ (∀ y, y ∈ x.fGiven → y.length ≤ maxLen)
def ptB (w : GWorld) (now : Int) : Bool := worldB w && inB now w.fNow 1000000000
def ptK (w : GWorld) (now : Int) : GBook := keepL w.fBook (sweepF w.fForest now)
def ptL (w : GWorld) (now : Int) : List GLease := goneL w.fBook (sweepF w.fForest now) ++ overO (ptK w now) now
def ptX (w : GWorld) (now : Int) : GWorld := { w with fNow := now, fForest := lessF w.fForest (sweepF w.fForest now), fBook := keepO (ptK w now) now }
def ptW (w : GWorld) (now : Int) : GWorld := if ptB w now then letGo (ptX w now) (ptL w now) else w
def ptR (w : GWorld) (now : Int) : RQ := letRun (letAll (ptX w now) (ptL w now))
def ptT (w : GWorld) (now : Int) : GTold := if ptB w now then ⟨sweepF w.fForest now, (ptL w now).map GLease.fId, (ptR w now).done, (ptR w now).failed⟩ else ⟨[], [], [], []⟩
theorem pt_let {w : GWorld} {now : Int} (hf : fitW w) (h : ptB w now = true) : LetOk (ptX w now) ∧ ownInc (ptX w now) ∧ worldB w = true ∧ bookB w.fBook = true ∧ forestB w.fForest = true := by
  unfold ptB at h
  rw [Bool.and_eq_true] at h
  obtain ⟨hL, hI, hb⟩ := letOk_of2 hf h.1 (lessF w.fForest (sweepF w.fForest now)) (keepO (ptK w now) now)
  obtain ⟨a1, a2, a3, a4, a5, a6, a7, a8⟩ := hL
  have hin := inB_true h.2
  have hn : 0 ≤ w.fNow := a1.1
  exact ⟨⟨⟨by show 0 ≤ now; omega, hin.2⟩, a2, a3, a4, a5, a6, a7, a8⟩, hI, h.1, hb, world_forest h.1⟩
theorem stable_len {α : Type} (lt : α → α → Bool) (l : List α) : (stable lt l).length = l.length := by unfold stable; rw [stGo_len, stIns_len]
theorem ptL_len (w : GWorld) (now : Int) : (ptL w now).length ≤ 2 * w.fBook.fLeases.length := by
  unfold ptL
  have h1 := goneL_len w.fBook (sweepF w.fForest now)
  have h2 : (overO (ptK w now) now).length ≤ w.fBook.fLeases.length := by
    unfold overO
    rw [stable_len]
    exact Nat.le_trans (List.length_filter_le _ _) (List.length_filter_le _ _)
  rw [List.length_append]; omega
theorem sweep_len {w : GWorld} (now : Int) (h : forestB w.fForest = true) : (sweepF w.fForest now).length ≤ 120 := by
  unfold sweepF
  have h1 := wo_len (fun t : GToken => overB t.fEnds now) w.fForest.fTokens
  unfold forestB at h
  simp only [Bool.and_eq_true, decide_eq_true_eq] at h
  omega
theorem passTime_c1_ok (t : GToken) (now : Int) : Valid PP GG 77 [.agg t.c, .rp [.int .i64 now]] (.d (.bool (overB t.fEnds now))) [none] := by
  refine cv Tryz.func77 [.d (.bool (overB t.fEnds now))] ?_
  have hind := ind_strs t.fNames
  have co := isOver_ok (GG := GG) t.fEnds now
  generalize overB t.fEnds now = r at *
  exact u_26 (Z1 co)
theorem passTime_ok [MaxL GG] (w : GWorld) (now : Int) (hf : fitW w) (hb : ptB w now = true) :
    Valid PP GG 36 [.agg w.c, .d (.int .i64 now)] (.tup [.agg (ptW w now).o, .agg (ptT w now).o]) [none, none] := by
  refine cv Tryz.func36 [.agg (ptW w now).o, .agg (ptT w now).o] ?_
  have ccp := cloneWorld_ok (GG := GG) w hf
  have hW : ptW w now = if ptB w now then letGo (ptX w now) (ptL w now) else w := rfl
  have hT : ptT w now = if ptB w now then ⟨sweepF w.fForest now, (ptL w now).map GLease.fId, (ptR w now).done, (ptR w now).failed⟩ else ⟨[], [], [], []⟩ := rfl
  rw [hb] at hW hT
  simp only [if_true] at hW hT
  obtain ⟨hL, hI, hWB, hbb, hfb⟩ := pt_let hf hb
  have hsl := sweep_len now hfb
  have hS : sweepF w.fForest now = (wo (fun t => overB t.fEnds now) w.fForest.fTokens).2 := rfl
  have hRr := (forest_wo hfb (fun t => overB t.fEnds now)).rest
  rw [← hS] at hRr
  have cwo := without_ok (GG := GG) w.fForest.fTokens 77 [[.int .i64 now]] (fun t => overB t.fEnds now) hf.1 fun t _ => passTime_c1_ok t now
  rw [← hS, hRr] at cwo
  have cdr := dropOfTokens_ok (GG := GG) { w with fNow := now, fForest := lessF w.fForest (sweepF w.fForest now) } (sweepF w.fForest now) hf.2.1.1 (by omega)
  dsimp only at cdr
  have hbl : w.fBook.fLeases.length ≤ 150 := by have := hbb; unfold bookB at this; rw [Bool.and_eq_true] at this; exact of_decide_eq_true this.1
  have hkl : (ptK w now).fLeases.length ≤ 150 := Nat.le_trans (List.length_filter_le _ _) hbl
  have cdo := dropOver_ok (GG := GG) (ptK w now) now (by omega)
  have hll := ptL_len w now
  have cre := release_ok (GG := GG) (ptX w now) (ptL w now) hL hI (by omega)
  rw [show (w.fForest.fTokens.filter fun t => !(sweepF w.fForest now).contains t.fId) = (lessF w.fForest (sweepF w.fForest now)).fTokens from rfl] at cwo
  rw [hW, hT]
  have hX : ptX w now = { w with fNow := now, fForest := lessF w.fForest (sweepF w.fForest now), fBook := keepO (ptK w now) now } := rfl
  have hLs : ptL w now = goneL w.fBook (sweepF w.fForest now) ++ overO (ptK w now) now := rfl
  have hR : ptR w now = letRun (letAll (ptX w now) (ptL w now)) := rfl
  rw [show keepL w.fBook (sweepF w.fForest now) = ptK w now from rfl] at cdr
  rw [← hR] at cre
  clear hR hW hT hL hI hS hRr
  generalize letGo (ptX w now) (ptL w now) = Z at *
  generalize ptR w now = R at *
  rw [hX] at cre
  clear hX
  generalize ptL w now = LS at *
  generalize sweepF w.fForest now = G at *
  generalize goneL w.fBook G = GL at *
  generalize lessF w.fForest G = LF at *
  generalize overO (ptK w now) now = OL at *
  generalize keepO (ptK w now) now = KO at *
  generalize ptK w now = KB at *
  obtain ⟨lf⟩ := LF
  obtain ⟨ko⟩ := KO
  obtain ⟨kb⟩ := KB
  have hg1 := ind_ints G
  have hg2 := ind_rToken lf
  have hg3 := ind_rLease ko
  have hg4 := ind_rLease kb
  have hg5 := ind_rLease GL
  have hg6 := ind_rLease OL
  have hll2 : GL.length + OL.length = LS.length := by rw [hLs, List.length_append]
  have hap : rLease GL ++ rLease OL = rLease LS := by rw [hLs, rLease_app]
  have hgll := rLease_len GL
  have holl := rLease_len OL
  clear hLs
  have hi1 := ind_rToken w.fForest.fTokens
  have hi2 := ind_rLease w.fBook.fLeases
  have hi3 := ind_rUser w.fFar.fUsers
  have hi4 := ind_rJob w.fQueue.fJobs
  have hi5 := ind_rOwned w.fOwned
  dsimp only at hkl
  refine u_42 (Y3 hgll holl hap) (Z4 ccp cwo cdr cdo) ?_
  refine W_nilP 7 1 rfl rfl rfl ?_
  refine W_loop (fun n st => ∃ i : Nat, n = LS.length - i ∧ i ≤ LS.length ∧ st = ⟨[], [(4, .ptr 0 0), (5, .ptr 1 0), (6, .ptr 2 0), (7, .ptr 3 0), (8, .sl 4), (41, .sl 4), (42, .d (.int .i64 LS.length)), (43, .d (.int .i64 i))],
      [(0, .box [.d (.int .i64 0), .d (.int .i64 0), .d (.int .i64 0), .nil 1 7, .nil 0 6, .nil 0 2, .d (.int .i64 0), .d (.int .i64 0), .nil 0 3, .nil 0 2]), (1, .box [.nil 0 1, .nil 0 1, .nil 0 1, .nil 0 1]), (2, .box [.d (.int .i64 now), .d (.int .i64 w.fNext), .d (.int .i64 w.fLost), .sl 5, .sl 6, .sl 7, .d (.int .i64 w.fFar.fFail), .d (.int .i64 w.fFar.fMade), .sl 8, .sl 9]), (3, .box [.sl 10, .sl 11, .nil 0 1, .nil 0 1]), (4, .arr 0 0 6 (rLease LS)), (5, .arr 0 1 7 (rToken lf)), (6, .arr 0 0 6 (rLease ko)), (7, .arr 0 0 2 (rUser w.fFar.fUsers)), (8, .arr 0 0 3 (rJob w.fQueue.fJobs)), (9, .arr 0 0 2 (rOwned w.fOwned)), (10, .arr 0 0 1 (intsD G)), (11, .arr 0 0 1 (intsD ((LS.take i).map GLease.fId)))], 12⟩) _ ⟨0, rfl, by omega, ?_⟩ ?_
  · simp [gc, closeN, liveA, gcV, gcO, renA, renAs, renO, namesAs, namesA, namesO, posn, intsD]
  clear ccp cwo cdr cdo
  rintro n st ⟨i, rfl, hi, rfl⟩
  by_cases hlt : i < LS.length
  · have ha := List.getElem?_eq_getElem hlt
    generalize LS[i] = x at ha
    have hsc : intsD ((LS.take (i + 1)).map GLease.fId) = intsD ((LS.take i).map GLease.fId) ++ [[.int .i64 x.fId]] := by rw [List.take_add_one, ha]; simp [intsD]
    have hlen : (intsD ((LS.take i).map GLease.fId)).length ≤ i := by rw [ints_len, List.length_map, List.length_take]; omega
    have e1 : IntKind.i64.wrap ((i : Int) + 1) = (i : Int) + 1 := wrap_id (by omega) (by omega)
    generalize intsD ((LS.take i).map GLease.fId) = L at *
    obtain ⟨x1, x2, x3, x4, x5, x6⟩ := x
    dsimp only at hsc
    refine u_45 (Y2 ha e1) ?_
    refine ⟨LS.length - (i + 1), by omega, i + 1, rfl, hlt, ?_⟩
    rw [hsc]
    exact u_16
  · have hie : i = LS.length := by omega
    subst hie
    rw [List.take_length]
    obtain ⟨Zn, Zx, Zl, ⟨Zf⟩, ⟨Zb⟩, ⟨Zu, Zfl, Zfm⟩, ⟨Zq⟩, Zo⟩ := Z
    have hj1 := ind_rToken Zf
    have hj2 := ind_rLease Zb
    have hj3 := ind_rUser Zu
    have hj4 := ind_rJob Zq
    have hj5 := ind_rOwned Zo
    have hj6 := ind_strs R.done
    have hj7 := ind_strs R.failed
    have hj8 := ind_ints (LS.map GLease.fId)
    have hj9 := ind_rLease LS
    exact u_26 (Z1 cre)
theorem i_PassTime_ok [MaxL GG] (w : GWorld) (now : Int) (hf : fitW w) :
    Valid PP GG 9 [.agg w.c, .d (.int .i64 now)] (.tup [.agg (ptW w now).o, .agg (ptT w now).o, .d (.bool (ptB w now))]) [none, none] := by
  refine cv Tryz.func9 [.agg (ptW w now).o, .agg (ptT w now).o, .d (.bool (ptB w now))] ?_
  have cw := isWorld_ok (GG := GG) w hf
  have ccp := cloneWorld_ok (GG := GG) w hf
  have cpt := passTime_ok (GG := GG) w now hf
  have cin : Valid PP GG 34 [.d (.int .i64 now), .d (.int .i64 w.fNow), .d (.int .i64 1000000000)] (.d (.bool (inB now w.fNow 1000000000))) [none, none, none] := within_ok _ _ _
  have hB : ptB w now = (worldB w && inB now w.fNow 1000000000) := rfl
  have hW : ptW w now = if ptB w now then letGo (ptX w now) (ptL w now) else w := rfl
  have hT : ptT w now = if ptB w now then ⟨sweepF w.fForest now, (ptL w now).map GLease.fId, (ptR w now).done, (ptR w now).failed⟩ else ⟨[], [], [], []⟩ := rfl
  have hi1 := ind_rToken w.fForest.fTokens
  have hi2 := ind_rLease w.fBook.fLeases
  have hi3 := ind_rUser w.fFar.fUsers
  have hi4 := ind_rJob w.fQueue.fJobs
  have hi5 := ind_rOwned w.fOwned
  cases hb : ptB w now with
  | false =>
    rw [hb] at hW hT
    simp only [Bool.false_eq_true, if_false] at hW hT
    rw [hW, hT]
    cases hWB : worldB w with
    | false =>
      rw [hWB] at cw
      clear hW hT hB cpt
      exact u_52 (Z2 ccp cw)
    | true =>
      rw [hb, hWB, Bool.true_and] at hB
      rw [hWB] at cw
      rw [← hB] at cin
      clear hW hT hB cpt
      exact u_52 (Z3 ccp cw cin)
  | true =>
    have cpt := cpt hb
    rw [hb] at hB
    have hB := hB.symm
    rw [Bool.and_eq_true] at hB
    rw [hB.1] at cw
    rw [hB.2] at cin
    clear hB hW hT
    generalize ptW w now = Z at *
    generalize ptT w now = R at *
    obtain ⟨Zn, Zx, Zl, ⟨Zf⟩, ⟨Zb⟩, ⟨Zu, Zfl, Zfm⟩, ⟨Zq⟩, Zo⟩ := Z
    obtain ⟨r1, r2, r3, r4⟩ := R
    have hj1 := ind_rToken Zf
    have hj2 := ind_rLease Zb
    have hj3 := ind_rUser Zu
    have hj4 := ind_rJob Zq
    have hj5 := ind_rOwned Zo
    have hj6 := ind_strs r3
    have hj7 := ind_strs r4
    have hj8 := ind_ints r1
    have hj9 := ind_ints r2
    exact u_26 (Z3 cw cin cpt)
theorem inB_mk {x lo hi : Int} (h1 : lo ≤ x) (h2 : x ≤ hi) : inB x lo hi = true := by simp [inB, h1, h2]
theorem mem_take_of {α : Type} {l : List α} {i j : Nat} {y : α} (hij : i < j) (hy : l[i]? = some y) : y ∈ l.take j := by
  refine List.mem_of_getElem? (i := i) ?_
  rw [List.getElem?_take_of_lt hij]; exact hy
theorem pw_iff {α : Type} {R : α → α → Prop} {l : List α} : (∀ (i : Nat) x, l[i]? = some x → ∀ y, y ∈ l.take i → R y x) ↔ l.Pairwise R := by
  constructor
  · intro h
    rw [List.pairwise_iff_getElem]
    intro i j hi hj hij
    exact h j _ (List.getElem?_eq_getElem hj) _ (mem_take_of hij (List.getElem?_eq_getElem hi))
  · intro h i x hx y hy
    obtain ⟨j, hj⟩ := List.getElem?_of_mem hy
    have hjl := (List.getElem?_eq_some_iff.1 hj).1
    rw [List.length_take] at hjl
    rw [List.getElem?_take_of_lt (by omega)] at hj
    exact pw_get h (by omega) hj hx
theorem okP_iff {α : Type} {q : List α → α → Bool} {l : List α} : okP q [] l = true ↔ ∀ (i : Nat) x, l[i]? = some x → q (l.take i) x = true :=
  ⟨fun h _ _ hi => okP_get h hi, okP_of⟩
theorem okP_key {α : Type} {key : α → Int} {A : α → Bool} {q : List α → α → Bool} {l : List α} (hq : ∀ pre x, q pre x = (A x && adjB (fun p x => decide (key p < key x)) pre x)) :
    okP q [] l = true ↔ (∀ x, x ∈ l → A x = true) ∧ l.Pairwise (fun y x => key y < key x) := by
  constructor
  · intro h
    refine ⟨fun x hx => ?_, okP_inc (fun pre x hh => ?_) h⟩
    · obtain ⟨i, hi⟩ := List.getElem?_of_mem hx
      have := okP_get h hi
      rw [hq, Bool.and_eq_true] at this
      exact this.1
    · rw [hq, Bool.and_eq_true] at hh; exact hh.2
  · rintro ⟨h1, h2⟩
    refine okP_of fun i x hx => ?_
    rw [hq, h1 x (List.mem_of_getElem? hx), Bool.true_and]
    cases i with
    | zero => exact adj_zero _ _ _
    | succ j =>
      have hy := List.getElem?_eq_getElem (show j < l.length by have := (List.getElem?_eq_some_iff.1 hx).1; omega)
      rw [adj_succ _ hy]
      exact decide_eq_true (pw_get h2 (Nat.lt_succ_self j) hy hx)
theorem okP_and {α : Type} {q q1 q2 : List α → α → Bool} {l : List α} (hq : ∀ pre x, q pre x = (q1 pre x && q2 pre x)) : okP q [] l = true ↔ okP q1 [] l = true ∧ okP q2 [] l = true := by
  simp only [okP_iff, hq, Bool.and_eq_true]
  exact ⟨fun h => ⟨fun i x hx => (h i x hx).1, fun i x hx => (h i x hx).2⟩, fun h i x hx => ⟨h.1 i x hx, h.2 i x hx⟩⟩
theorem okP_any {α : Type} {r : α → α → Bool} {l : List α} : okP (fun pre x => !(pre.any fun p => r p x)) [] l = true ↔ l.Pairwise (fun y x => r y x = false) := by
  rw [← pw_iff, okP_iff]
  simp only [Bool.not_eq_true', List.any_eq_false, Bool.not_eq_true]
theorem okP_all {α : Type} {A : α → Bool} {l : List α} : okP (fun _ x => A x) [] l = true ↔ ∀ x, x ∈ l → A x = true := by
  rw [okP_iff]
  exact ⟨fun h x hx => by obtain ⟨i, hi⟩ := List.getElem?_of_mem hx; exact h i x hi, fun h i x hx => h x (List.mem_of_getElem? hx)⟩
theorem forest_iff (f : GForest) : forestB f = true ↔ f.fTokens.length ≤ 120 ∧ (∀ t, t ∈ f.fTokens → tokenB t = true ∧ (t.fParent = 0 ∨ hasTok f t.fParent = true)) ∧ f.fTokens.Pairwise (fun y x => y.fId < x.fId) := by
  unfold forestB
  rw [Bool.and_eq_true, decide_eq_true_iff, okP_key (key := GToken.fId) (A := fun t => tokenB t && (decide (t.fParent = 0) || hasTok f t.fParent))]
  · simp only [Bool.and_eq_true, Bool.or_eq_true, decide_eq_true_eq]
  · intro pre x
    unfold tokQ
    rw [Bool.and_assoc, Bool.and_comm (adjB _ _ _), ← Bool.and_assoc]
theorem book_iff (b : GBook) : bookB b = true ↔ b.fLeases.length ≤ 150 ∧ (∀ t, t ∈ b.fLeases → leaseB t = true) ∧ b.fLeases.Pairwise (fun y x => y.fId < x.fId) := by
  unfold bookB
  rw [Bool.and_eq_true, decide_eq_true_iff, okP_key (key := GLease.fId) (A := leaseB)]
  intro pre x; rfl
theorem queue_iff (q : GQueue) : queueB q = true ↔ q.fJobs.length ≤ 120 ∧ (∀ t, t ∈ q.fJobs → jobB t = true) ∧ q.fJobs.Pairwise (fun y x => y.fName ≠ x.fName) := by
  unfold queueB
  rw [Bool.and_eq_true, decide_eq_true_iff, okP_and (q := jobQ) (q1 := fun _ x => jobB x) (q2 := fun pre x => !(pre.any fun t => t.fName == x.fName)) (fun _ _ => rfl), okP_all, okP_any (r := fun (t x : GJob) => t.fName == x.fName)]
  simp only [beq_eq_false_iff_ne]
theorem own_iff (b : GBook) (l : List GOwned) : okP (ownQ b) [] l = true ↔ (∀ o, o ∈ l → hasLease b o.fLease = true ∧ nameOk o.fName = true) ∧ l.Pairwise (fun y x => y.fLease < x.fLease) ∧ l.Pairwise (fun y x => y.fName ≠ x.fName) := by
  rw [okP_and (q1 := fun pre x => (hasLease b x.fLease && nameOk x.fName) && adjB (fun p x => decide (p.fLease < x.fLease)) pre x) (q2 := fun pre x => !(pre.any fun t => t.fName == x.fName)),
    okP_key (key := GOwned.fLease) (A := fun x => hasLease b x.fLease && nameOk x.fName) (fun _ _ => rfl), okP_any (r := fun (t x : GOwned) => t.fName == x.fName)]
  · simp only [beq_eq_false_iff_ne, Bool.and_eq_true, and_assoc]
  · intro pre x
    unfold ownQ
    simp only [Bool.and_assoc]
    rw [Bool.and_left_comm, Bool.and_left_comm (adjB _ _ _)]
structure WOk (w : GWorld) (ls : List GLease) : Prop where
  now : 0 ≤ w.fNow ∧ w.fNow ≤ 1000000000
  next : 1 ≤ w.fNext ∧ w.fNext ≤ 1000000000
  lost : 0 ≤ w.fLost ∧ w.fLost ≤ 1000000000
  fo : forestB w.fForest = true
  bo : bookB w.fBook = true
  fa : farB w.fFar = true
  qu : queueB w.fQueue = true
  bt : ∀ t, t ∈ w.fForest.fTokens → t.fId < w.fNext
  bl : ∀ l, l ∈ w.fBook.fLeases → l.fId < w.fNext
  oi : w.fOwned.Pairwise (fun y x => y.fLease < x.fLease)
  ol : ∀ o, o ∈ w.fOwned → (ls.any fun l => decide (l.fId = o.fLease)) = false → hasLease w.fBook o.fLease = true
  on : ∀ o, o ∈ w.fOwned → nameOk o.fName = true
  od : w.fOwned.Pairwise (fun y x => y.fName ≠ x.fName)
  len : w.fOwned.length ≤ 1048576
theorem world_iff (w : GWorld) : worldB w = true ↔ WOk w [] := by
  unfold worldB
  simp only [Bool.and_eq_true, belowT, belowL, List.all_eq_true, decide_eq_true_eq]
  constructor
  · rintro ⟨⟨⟨⟨⟨⟨⟨⟨⟨h1, h2⟩, h3⟩, h4⟩, h5⟩, h6⟩, h7⟩, h8⟩, h9⟩, h0⟩
    have hl := owned_len h5 h0
    obtain ⟨h10, h11, h12⟩ := (own_iff _ _).1 h0
    have hb : w.fBook.fLeases.length ≤ 150 := ((book_iff _).1 h5).1
    exact ⟨inB_true h1, inB_true h2, inB_true h3, h4, h5, h6, h7, h8, h9, h11, fun o ho _ => (h10 o ho).1, fun o ho => (h10 o ho).2, h12, by omega⟩
  · rintro ⟨h1, h2, h3, h4, h5, h6, h7, h8, h9, h11, h10, h13, h12, -⟩
    exact ⟨⟨⟨⟨⟨⟨⟨⟨⟨inB_mk h1.1 h1.2, inB_mk h2.1 h2.2⟩, inB_mk h3.1 h3.2⟩, h4⟩, h5⟩, h6⟩, h7⟩, h8⟩, h9⟩, (own_iff _ _).2 ⟨fun o ho => ⟨h10 o ho rfl, h13 o ho⟩, h11, h12⟩⟩
theorem name_le {s : List UInt8} (h : nameOk s = true) : s.length ≤ 12 := by
  unfold nameOk at h
  simp only [Bool.and_eq_true, decide_eq_true_eq] at h
  exact h.1.2
def strayN (us : List GUser) (ow : List GOwned) (js : List GJob) : Nat := (us.filter fun u => !knownU ow js u.fName).length
theorem strays_len (us : List GUser) (ow : List GOwned) (js : List GJob) : (straysOf us ow js).length = strayN us ow js := by unfold straysOf strayN; rw [List.length_map]
theorem cnt_le {α : Type} {p q r : α → Bool} {l : List α} (h : ∀ u, u ∈ l → p u = true → q u = true ∨ r u = true) : (l.filter p).length ≤ (l.filter q).length + (l.filter r).length := by
  induction l with
  | nil => simp
  | cons a t ih =>
    have ih := ih fun u hu => h u (List.mem_cons_of_mem _ hu)
    have ha := h a (List.mem_cons_self ..)
    simp only [List.filter_cons]
    cases hp : p a <;> cases hq : q a <;> cases hr : r a <;> simp_all <;> omega
theorem one_le {α : Type} {key : α → List UInt8} {l : List α} (h : l.Pairwise (fun y x => key y ≠ key x)) (s : List UInt8) : (l.filter fun u => key u == s).length ≤ 1 := by
  induction l with
  | nil => simp
  | cons a t ih =>
    rw [List.pairwise_cons] at h
    simp only [List.filter_cons]
    split
    · rename_i ha
      have : t.filter (fun u => key u == s) = [] := by
        rw [List.filter_eq_nil_iff]
        intro x hx e
        exact h.1 x hx (by rw [eq_of_beq ha, eq_of_beq e])
      rw [this]; simp
    · exact ih h.2
theorem stray_le {us us' : List GUser} {ow ow' : List GOwned} {js js' : List GJob} (p : GUser → Bool) (hu : us' = us.filter p) (h : ∀ u, u ∈ us' → knownU ow js u.fName = true → knownU ow' js' u.fName = true) : strayN us' ow' js' ≤ strayN us ow js := by
  unfold strayN
  have := cnt_le (p := fun u => !knownU ow' js' u.fName) (q := fun u => !knownU ow js u.fName) (r := fun _ => false) (l := us') fun u hu hp => by
    left
    cases hk : knownU ow js u.fName with
    | false => rfl
    | true => rw [h u hu hk] at hp; cases hp
  have e0 : (us'.filter fun _ => false).length = 0 := by rw [List.length_eq_zero_iff, List.filter_eq_nil_iff]; simp
  have e1 : (us'.filter fun u => !knownU ow js u.fName).length ≤ (us.filter fun u => !knownU ow js u.fName).length := by
    rw [hu, List.filter_filter]
    have := cnt_le (p := fun u => (!knownU ow js u.fName) && p u) (q := fun u => !knownU ow js u.fName) (r := fun _ => false) (l := us) fun u _ hp => by
      rw [Bool.and_eq_true] at hp; exact .inl hp.1
    have e0 : (us.filter fun _ => false).length = 0 := by rw [List.length_eq_zero_iff, List.filter_eq_nil_iff]; simp
    omega
  omega
theorem stray_one {us : List GUser} {ow ow' : List GOwned} {js js' : List GJob} (hd : us.Pairwise (fun y x => y.fName ≠ x.fName)) (s : List UInt8) (h : ∀ u, u ∈ us → u.fName ≠ s → knownU ow js u.fName = true → knownU ow' js' u.fName = true) : strayN us ow' js' ≤ strayN us ow js + 1 := by
  unfold strayN
  have h1 := one_le (key := GUser.fName) hd s
  have := cnt_le (p := fun u => !knownU ow' js' u.fName) (q := fun u => !knownU ow js u.fName) (r := fun u => u.fName == s) (l := us) fun u hu hp => by
    by_cases hs : u.fName = s
    · right; rw [hs]; simp
    · left
      cases hk : knownU ow js u.fName with
      | false => rfl
      | true => rw [h u hu hs hk] at hp; cases hp
  omega
theorem known_iff {ow : List GOwned} {js : List GJob} {s : List UInt8} : knownU ow js s = true ↔ (∃ o, o ∈ ow ∧ o.fName = s) ∨ ∃ j, j ∈ js ∧ j.fName = s := by
  unfold knownU
  simp only [Bool.or_eq_true, List.any_eq_true, beq_iff_eq]
theorem lose_ge {w : GWorld} {n : Int} {k : Nat} (h : (k : Int) ≤ w.fLost + n) (hk : k ≤ 120) : (k : Int) ≤ (loseW w n).fLost := by
  unfold loseW; dsimp only; split <;> omega
theorem stray_len (us : List GUser) (ow : List GOwned) (js : List GJob) : strayN us ow js ≤ us.length := List.length_filter_le _ _
theorem letFold_same (w : GWorld) (id : Int) (os : List GOwned) : (letFold w id os).1 = { w with fQueue := (letFold w id os).1.fQueue, fLost := (letFold w id os).1.fLost } ∧ (letFold w id os).2 = os.filter fun o => !decide (o.fLease = id) := by
  induction os using snoc_ind with
  | h0 => exact ⟨rfl, rfl⟩
  | h1 l x ih =>
    rw [letFold_snoc, List.filter_append]
    generalize letFold w id l = s at ih ⊢
    obtain ⟨V, r⟩ := s
    obtain ⟨i1, i2⟩ := ih
    dsimp only at i1 i2
    unfold letStep
    split
    · rename_i h
      refine ⟨?_, ?_⟩
      · dsimp only
        unfold letHit loseW
        rw [i1]
        split <;> rfl
      · simp [h, i2]
    · rename_i h
      refine ⟨i1, ?_⟩
      simp [h, i2]
theorem letAll_same (w : GWorld) (ls : List GLease) : letAll w ls = { w with fQueue := (letAll w ls).fQueue, fLost := (letAll w ls).fLost, fOwned := w.fOwned.filter fun o => !(ls.any fun l => decide (l.fId = o.fLease)) } := by
  unfold letAll
  induction ls generalizing w with
  | nil =>
    show w = _
    have : w.fOwned.filter (fun o => !(([] : List GLease).any fun l => decide (l.fId = o.fLease))) = w.fOwned := by rw [List.filter_eq_self]; intro x _; rfl
    dsimp only [List.foldl_nil]
    rw [this]
  | cons l r ih =>
    rw [List.foldl_cons]
    have h1 := ih (letOne w l)
    obtain ⟨h2, h3⟩ := letFold_same w l.fId w.fOwned
    have e1 : letOne w l = { w with fQueue := (letOne w l).fQueue, fLost := (letOne w l).fLost, fOwned := w.fOwned.filter fun o => !decide (o.fLease = l.fId) } := by
      unfold letOne; rw [h3]; rw [h2]
    generalize List.foldl letOne (letOne w l) r = Z at *
    rw [h1, e1]
    dsimp only
    rw [List.filter_filter]
    congr 1
    refine List.filter_congr fun o _ => ?_
    rw [List.any_cons, Bool.not_or, Bool.and_comm]
    congr 2
    exact decide_eq_decide.2 eq_comm
theorem qDrop_jobs {q : GQueue} {s : List UInt8} {now : Int} : (qDropB q s now = true → ∃ j, j ∈ (qDropQ q s now).fJobs ∧ j.fName = s) ∧ (∀ j, j ∈ q.fJobs → j ∈ (qDropQ q s now).fJobs) ∧ ∀ j, j ∈ (qDropQ q s now).fJobs → j ∈ q.fJobs ∨ j.fName = s := by
  unfold qDropB qDropQ
  cases hh : qHas q s with
  | true =>
    refine ⟨fun _ => ?_, fun j hj => hj, fun j hj => .inl hj⟩
    unfold qHas at hh
    obtain ⟨j, hj, e⟩ := List.any_eq_true.1 hh
    exact ⟨j, hj, eq_of_beq e⟩
  | false =>
    cases hq : queueB (dropOut q s now) with
    | true =>
      simp only [Bool.false_eq_true, if_false, if_true]
      unfold dropOut
      dsimp only
      refine ⟨fun _ => ⟨⟨s, now, 0⟩, by simp, rfl⟩, fun j hj => by simp [hj], fun j hj => ?_⟩
      rcases List.mem_append.1 hj with hj | hj
      · exact .inl hj
      · simp at hj; subst hj; exact .inr rfl
    | false =>
      simp only [Bool.false_eq_true, if_false]
      exact ⟨fun h => (by cases h), fun j hj => hj, fun j hj => .inl hj⟩
theorem letFold_str {us : List GUser} (hd : us.Pairwise (fun y x => y.fName ≠ x.fName)) (hu : us.length ≤ 120) (id : Int) : ∀ (os : List GOwned) (s : GWorld × List GOwned), (strayN us (s.2 ++ os) s.1.fQueue.fJobs : Int) ≤ s.1.fLost →
    (strayN us (os.foldl (letStep id) s).2 (os.foldl (letStep id) s).1.fQueue.fJobs : Int) ≤ (os.foldl (letStep id) s).1.fLost := by
  intro os
  induction os with
  | nil => intro s h; rw [List.append_nil] at h; exact h
  | cons o os ih =>
    intro s h
    rw [List.foldl_cons]
    refine ih _ ?_
    obtain ⟨V, r⟩ := s
    dsimp only at h
    obtain ⟨k1, k2, k3⟩ := qDrop_jobs (q := V.fQueue) (s := o.fName) (now := V.fNow)
    unfold letStep
    split
    · dsimp only
      unfold letHit
      split
      · rename_i hb
        have := stray_le (us := us) (us' := us) (ow := r ++ o :: os) (js := V.fQueue.fJobs) (ow' := r ++ os) (js' := (qDropQ V.fQueue o.fName V.fNow).fJobs) (fun _ => true) (List.filter_eq_self.2 fun _ _ => rfl).symm fun u _ hk => by
          rw [known_iff] at hk ⊢
          rcases hk with ⟨x, hx, e⟩ | ⟨j, hj, e⟩
          · rcases List.mem_append.1 hx with hx | hx
            · exact .inl ⟨x, by simp [hx], e⟩
            · rcases List.mem_cons.1 hx with rfl | hx
              · obtain ⟨j, hj, e2⟩ := k1 hb; exact .inr ⟨j, hj, by rw [e2, e]⟩
              · exact .inl ⟨x, by simp [hx], e⟩
          · exact .inr ⟨j, k2 j hj, e⟩
        dsimp only
        omega
      · have := stray_one (ow := r ++ o :: os) (js := V.fQueue.fJobs) (ow' := r ++ os) (js' := (qDropQ V.fQueue o.fName V.fNow).fJobs) hd o.fName fun u _ hn hk => by
          rw [known_iff] at hk ⊢
          rcases hk with ⟨x, hx, e⟩ | ⟨j, hj, e⟩
          · rcases List.mem_append.1 hx with hx | hx
            · exact .inl ⟨x, by simp [hx], e⟩
            · rcases List.mem_cons.1 hx with rfl | hx
              · exact absurd e.symm hn
              · exact .inl ⟨x, by simp [hx], e⟩
          · exact .inr ⟨j, k2 j hj, e⟩
        refine lose_ge ?_ (Nat.le_trans (stray_len _ _ _) hu)
        dsimp only [loseW]
        omega
    · dsimp only
      rw [List.append_assoc]; exact h
theorem letAll_str {w : GWorld} (ls : List GLease) (hd : w.fFar.fUsers.Pairwise (fun y x => y.fName ≠ x.fName)) (hu : w.fFar.fUsers.length ≤ 120) (h : (strayN w.fFar.fUsers w.fOwned w.fQueue.fJobs : Int) ≤ w.fLost) :
    (strayN w.fFar.fUsers (letAll w ls).fOwned (letAll w ls).fQueue.fJobs : Int) ≤ (letAll w ls).fLost := by
  unfold letAll
  induction ls generalizing w with
  | nil => exact h
  | cons l r ih =>
    rw [List.foldl_cons]
    have e : (letOne w l).fFar = w.fFar := by unfold letOne; rw [(letFold_same w l.fId w.fOwned).1]
    have := ih (w := letOne w l) (by rw [e]; exact hd) (by rw [e]; exact hu) (by
      rw [e]
      exact letFold_str hd hu l.fId w.fOwned (w, []) h)
    rwa [e] at this
theorem rq_str (now : Int) (ow : List GOwned) (n : Int) : ∀ (js : List GJob) (s : RQ), s.far.fUsers.Pairwise (fun y x => y.fName ≠ x.fName) → (strayN s.far.fUsers ow (s.jobs ++ js) : Int) ≤ n + s.failed.length →
    (strayN (js.foldl (rqStep now) s).far.fUsers ow (js.foldl (rqStep now) s).jobs : Int) ≤ n + (js.foldl (rqStep now) s).failed.length := by
  intro js
  induction js with
  | nil => intro s _ h; rw [List.append_nil] at h; exact h
  | cons j js ih =>
    intro s hd h
    rw [List.foldl_cons]
    have hdrop : dropC s.far = 0 → dropF s.far j.fName = { s.far with fUsers := s.far.fUsers.filter fun u => !(u.fName == j.fName) } := fun h => by
      unfold dropC at h; unfold dropF; split at h
      · cases h
      · rw [if_neg (by assumption)]
    have hkeep : ¬ dropC s.far = 0 → (dropF s.far j.fName).fUsers = s.far.fUsers := fun h => by
      unfold dropC at h; unfold dropF; split at h
      · rw [if_pos (by assumption)]
      · exact absurd rfl h
    unfold rqStep
    split
    · refine ih _ hd ?_
      dsimp only
      rw [List.append_assoc]; exact h
    · split
      · rename_i h0
        have := stray_le (us := s.far.fUsers) (us' := (dropF s.far j.fName).fUsers) (ow := ow) (js := s.jobs ++ j :: js) (ow' := ow) (js' := s.jobs ++ js) (fun u => !(u.fName == j.fName)) (by rw [hdrop h0]) fun u hu hk => by
          rw [known_iff] at hk ⊢
          rw [hdrop h0] at hu
          have hn := (List.mem_filter.1 hu).2
          rcases hk with hk | ⟨x, hx, e⟩
          · exact .inl hk
          · rcases List.mem_append.1 hx with hx | hx
            · exact .inr ⟨x, by simp [hx], e⟩
            · rcases List.mem_cons.1 hx with rfl | hx
              · rw [e] at hn; simp at hn
              · exact .inr ⟨x, by simp [hx], e⟩
        refine ih _ ?_ ?_
        · dsimp only; rw [hdrop h0]; exact hd.filter _
        · dsimp only; omega
      · rename_i h0
        split
        · have := stray_one (us := s.far.fUsers) (ow := ow) (js := s.jobs ++ j :: js) (ow' := ow) (js' := s.jobs ++ js) hd j.fName fun u _ hn hk => by
            rw [known_iff] at hk ⊢
            rcases hk with hk | ⟨x, hx, e⟩
            · exact .inl hk
            · rcases List.mem_append.1 hx with hx | hx
              · exact .inr ⟨x, by simp [hx], e⟩
              · rcases List.mem_cons.1 hx with rfl | hx
                · exact absurd e.symm hn
                · exact .inr ⟨x, by simp [hx], e⟩
          refine ih _ ?_ ?_
          · dsimp only; rw [hkeep h0]; exact hd
          · dsimp only; rw [hkeep h0]; simp only [List.length_append, List.length_cons, List.length_nil]; omega
        · refine ih _ ?_ ?_
          · dsimp only; rw [hkeep h0]; exact hd
          · dsimp only
            rw [hkeep h0]
            have := stray_le (us := s.far.fUsers) (us' := s.far.fUsers) (ow := ow) (js := s.jobs ++ j :: js) (ow' := ow) (js' := s.jobs ++ [⟨j.fName, now + 2 ^ (j.fTries + 1).toNat, j.fTries + 1⟩] ++ js) (fun _ => true) (List.filter_eq_self.2 fun _ _ => rfl).symm fun u _ hk => by
              rw [known_iff] at hk ⊢
              rcases hk with hk | ⟨x, hx, e⟩
              · exact .inl hk
              · rcases List.mem_append.1 hx with hx | hx
                · exact .inr ⟨x, by simp [hx], e⟩
                · rcases List.mem_cons.1 hx with rfl | hx
                  · exact .inr ⟨⟨x.fName, now + 2 ^ (x.fTries + 1).toNat, x.fTries + 1⟩, by simp, e⟩
                  · exact .inr ⟨x, by simp [hx], e⟩
            omega
theorem inB_iff {x lo hi : Int} : inB x lo hi = true ↔ lo ≤ x ∧ x ≤ hi := ⟨inB_true, fun h => inB_mk h.1 h.2⟩
theorem rq_jobs {now : Int} (hn : 0 ≤ now ∧ now ≤ 1000000000) : ∀ (js : List GJob) (s : RQ), (∀ j, j ∈ s.jobs ++ js → jobB j = true) → (s.jobs ++ js).Pairwise (fun y x => y.fName ≠ x.fName) →
    (∀ j, j ∈ (js.foldl (rqStep now) s).jobs → jobB j = true ∧ ∃ i, i ∈ s.jobs ++ js ∧ i.fName = j.fName) ∧ (js.foldl (rqStep now) s).jobs.Pairwise (fun y x => y.fName ≠ x.fName) := by
  intro js
  induction js with
  | nil =>
    intro s h1 h2
    rw [List.append_nil] at h1 h2
    refine ⟨fun j hj => ⟨h1 j hj, j, ?_, rfl⟩, h2⟩
    rw [List.append_nil]; exact hj
  | cons j js ih =>
    intro s h1 h2
    rw [List.foldl_cons]
    have hdel : (s.jobs ++ js).Pairwise (fun y x => y.fName ≠ x.fName) := by
      refine List.Pairwise.sublist ?_ h2
      exact List.Sublist.append (List.Sublist.refl _) (List.sublist_cons_self _ _)
    have hdel1 : ∀ x, x ∈ s.jobs ++ js → x ∈ s.jobs ++ j :: js := fun x hx => by
      rcases List.mem_append.1 hx with hx | hx
      · simp [hx]
      · simp [hx]
    unfold rqStep
    split
    · have := ih { s with jobs := s.jobs ++ [j] } (by dsimp only; rw [List.append_assoc]; exact h1) (by dsimp only; rw [List.append_assoc]; exact h2)
      dsimp only at this
      rw [List.append_assoc] at this
      exact this
    · split
      · have := ih { s with far := dropF s.far j.fName, done := s.done ++ [j.fName] } (fun x hx => h1 x (hdel1 x hx)) hdel
        exact ⟨fun x hx => ⟨(this.1 x hx).1, by obtain ⟨i, hi, e⟩ := (this.1 x hx).2; exact ⟨i, hdel1 i hi, e⟩⟩, this.2⟩
      · split
        · have := ih { s with far := dropF s.far j.fName, failed := s.failed ++ [j.fName] } (fun x hx => h1 x (hdel1 x hx)) hdel
          exact ⟨fun x hx => ⟨(this.1 x hx).1, by obtain ⟨i, hi, e⟩ := (this.1 x hx).2; exact ⟨i, hdel1 i hi, e⟩⟩, this.2⟩
        · rename_i h6
          have hj := h1 j (by simp)
          have hnew : jobB ⟨j.fName, now + 2 ^ (j.fTries + 1).toNat, j.fTries + 1⟩ = true := by
            unfold jobB at hj ⊢
            simp only [Bool.and_eq_true, inB_iff] at hj ⊢
            obtain ⟨⟨a, b⟩, c⟩ := hj
            have hp : ∃ k : Nat, k ≤ 5 ∧ (j.fTries + 1).toNat = k := ⟨_, by omega, rfl⟩
            obtain ⟨k, hk, e⟩ := hp
            rw [e]
            have h64 : (2 : Int) ^ k ≤ 64 ∧ 0 ≤ (2 : Int) ^ k := by
              match k, hk with
              | 0, _ => decide
              | 1, _ => decide
              | 2, _ => decide
              | 3, _ => decide
              | 4, _ => decide
              | 5, _ => decide
            exact ⟨⟨a, by omega, by omega⟩, by omega, by omega⟩
          have := ih { s with jobs := s.jobs ++ [⟨j.fName, now + 2 ^ (j.fTries + 1).toNat, j.fTries + 1⟩], far := dropF s.far j.fName } (fun x hx => by
            dsimp only at hx
            rw [List.append_assoc] at hx
            rcases List.mem_append.1 hx with hx | hx
            · exact h1 x (by simp [hx])
            · rcases List.mem_cons.1 hx with rfl | hx
              · exact hnew
              · exact h1 x (by have hx : x ∈ js := hx; simp [hx])) (by
            dsimp only
            rw [List.append_assoc, List.singleton_append]
            rw [List.pairwise_append, List.pairwise_cons] at h2 ⊢
            refine ⟨h2.1, ⟨fun a ha => h2.2.1.1 a ha, h2.2.1.2⟩, fun a ha b hb => ?_⟩
            rcases List.mem_cons.1 hb with rfl | hb
            · exact h2.2.2 a ha j (by simp)
            · exact h2.2.2 a ha b (List.mem_cons_of_mem _ hb))
          refine ⟨fun x hx => ⟨(this.1 x hx).1, ?_⟩, this.2⟩
          obtain ⟨i, hi, e⟩ := (this.1 x hx).2
          dsimp only at hi
          rw [List.append_assoc] at hi
          rcases List.mem_append.1 hi with hi | hi
          · exact ⟨i, by simp [hi], e⟩
          · rcases List.mem_cons.1 hi with rfl | hi
            · exact ⟨j, by simp, e⟩
            · exact ⟨i, by have hi : i ∈ js := hi; simp [hi], e⟩
theorem dropF_is (f : GFar) (s : List UInt8) : (dropF f s).fMade = f.fMade ∧ ∀ u, u ∈ (dropF f s).fUsers → u ∈ f.fUsers := by
  unfold dropF
  split
  · exact ⟨rfl, fun u hu => hu⟩
  · exact ⟨rfl, fun u hu => (List.mem_filter.1 hu).1⟩
theorem rq_made (now : Int) (q : List GJob) (f : GFar) : (rq now q f).far.fMade = f.fMade ∧ ∀ u, u ∈ (rq now q f).far.fUsers → u ∈ f.fUsers := by
  induction q using snoc_ind with
  | h0 => exact ⟨rfl, fun u hu => hu⟩
  | h1 l x ih =>
    have e : rq now (l ++ [x]) f = rqStep now (rq now l f) x := by unfold rq; rw [List.foldl_append]; rfl
    have hd := dropF_is (rq now l f).far x.fName
    rw [e]
    unfold rqStep
    repeat' split
    · exact ih
    all_goals exact ⟨hd.1.trans ih.1, fun u hu => ih.2 u (hd.2 u hu)⟩
theorem fitQ_of {q : GQueue} (h : queueB q = true) : fitQ q := by
  obtain ⟨h1, h2, -⟩ := (queue_iff q).1 h
  refine ⟨by omega, fun t ht => ?_⟩
  have := h2 t ht
  unfold jobB at this
  simp only [Bool.and_eq_true] at this
  have := name_le this.1.1
  omega
theorem fitFar_of {f : GFar} (h : farB f = true) : fitFar f := by
  obtain ⟨h1, -, -, h2, -⟩ := (far_iff f).1 h
  refine ⟨by omega, fun t ht => ?_⟩
  have := name_le (h2 t ht)
  omega
theorem path_le {s : List UInt8} (h : pathOk s = true) : s.length ≤ 120 := by
  unfold pathOk globOk at h
  simp only [Bool.and_eq_true, decide_eq_true_eq] at h
  exact h.1.1
theorem fitB_of {b : GBook} (h : bookB b = true) : fitB b := by
  obtain ⟨h1, h2, -⟩ := (book_iff b).1 h
  refine ⟨by omega, fun t ht => ?_⟩
  have := h2 t ht
  unfold leaseB at this
  simp only [Bool.and_eq_true] at this
  have := path_le this.1.1.1.2
  omega
theorem fitF_of {f : GForest} (h : forestB f = true) : fitF f := by
  obtain ⟨h1, h2, -⟩ := (forest_iff f).1 h
  refine ⟨by omega, fun t ht => ?_⟩
  have := (h2 t ht).1
  unfold tokenB namesOk at this
  simp only [Bool.and_eq_true, decide_eq_true_eq] at this
  obtain ⟨⟨⟨⟨⟨⟨a, b⟩, c, d⟩, e⟩, f⟩, g⟩, i⟩ := this
  refine ⟨by omega, fun s hs => ?_⟩
  obtain ⟨i, hi⟩ := List.getElem?_of_mem hs
  have := okP_get d hi
  unfold nameQ at this
  rw [Bool.and_eq_true] at this
  have := name_le this.1
  omega
theorem letOk_w {w : GWorld} {ls : List GLease} (h : WOk w ls) : LetOk w :=
  ⟨h.now, h.lost, h.qu, fitQ_of h.qu, h.fa, fitFar_of h.fa, h.len, fun o ho => by have := name_le (h.on o ho); omega⟩
theorem fitW_of_ok {w : GWorld} (h : worldB w = true) : fitW w := by
  have h := (world_iff w).1 h
  exact ⟨fitF_of h.fo, fitB_of h.bo, fitFar_of h.fa, fitQ_of h.qu, h.len, fun o ho => by have := name_le (h.on o ho); omega⟩
theorem letGo_ok {w : GWorld} {ls : List GLease} (h : WOk w ls) : WOk (letGo w ls) [] := by
  have hA := letAll_same w ls
  have hL := letAll_ok (letOk_w h) ls
  have hr1 := rq_far (now := (letAll w ls).fNow) hL.fb hL.ff (letAll w ls).fQueue.fJobs
  have hq := (queue_iff _).1 hL.qb
  have hr2 := rq_jobs hL.now (letAll w ls).fQueue.fJobs ⟨[], (letAll w ls).fFar, [], []⟩ hq.2.1 hq.2.2
  have hr3 := (rq_len (letAll w ls).fNow (letAll w ls).fQueue.fJobs (letAll w ls).fFar).1
  have hlo := hL.lost
  have hgo : letGo w ls = loseW { letAll w ls with fQueue := ⟨(letRun (letAll w ls)).jobs⟩, fFar := (letRun (letAll w ls)).far } (letRun (letAll w ls)).failed.length := rfl
  have hru : letRun (letAll w ls) = rq (letAll w ls).fNow (letAll w ls).fQueue.fJobs (letAll w ls).fFar := rfl
  have hrq : rq (letAll w ls).fNow (letAll w ls).fQueue.fJobs (letAll w ls).fFar = (letAll w ls).fQueue.fJobs.foldl (rqStep (letAll w ls).fNow) ⟨[], (letAll w ls).fFar, [], []⟩ := rfl
  rw [← hrq] at hr2
  rw [← hru] at hr1 hr2 hr3
  generalize letRun (letAll w ls) = R at *
  have e1 : (letAll w ls).fNow = w.fNow := by rw [hA]
  have e2 : (letAll w ls).fNext = w.fNext := by rw [hA]
  have e3 : (letAll w ls).fForest = w.fForest := by rw [hA]
  have e4 : (letAll w ls).fBook = w.fBook := by rw [hA]
  have e5 : (letAll w ls).fOwned = w.fOwned.filter fun o => !(ls.any fun l => decide (l.fId = o.fLease)) := by rw [hA]
  rw [hgo]
  unfold loseW
  generalize letAll w ls = Z at *
  obtain ⟨h1, h2, h3, h4, h5, h6, h7, h8, h9, h10, h11, h12, h13, h14⟩ := h
  refine ⟨?_, ?_, ?_, ?_, ?_, hr1.1, (queue_iff _).2 ⟨?_, fun j hj => (hr2.1 j hj).1, hr2.2⟩, ?_, ?_, ?_, ?_, ?_, ?_, ?_⟩
  · dsimp only; rw [e1]; exact h1
  · dsimp only; rw [e2]; exact h2
  · dsimp only; split <;> omega
  · dsimp only; rw [e3]; exact h4
  · dsimp only; rw [e4]; exact h5
  · dsimp only; omega
  · dsimp only; rw [e2, e3]; exact h8
  · dsimp only; rw [e2, e4]; exact h9
  · dsimp only; rw [e5]; exact h10.filter _
  · dsimp only; rw [e4, e5]; intro o ho _
    obtain ⟨a, b⟩ := List.mem_filter.1 ho
    exact h11 o a (by simpa using b)
  · dsimp only; rw [e5]; exact fun o ho => h12 o (List.mem_filter.1 ho).1
  · dsimp only; rw [e5]; exact h13.filter _
  · dsimp only; rw [e5]; exact Nat.le_trans (List.length_filter_le _ _) h14
theorem far_dist {f : GFar} (h : farB f = true) : f.fUsers.Pairwise (fun y x => y.fName ≠ x.fName) := by
  refine List.Pairwise.imp ?_ (far_inc h)
  intro a b hab e
  rw [e, bl_irrefl] at hab; cases hab
theorem letGo_str {w : GWorld} {ls : List GLease} (h : WOk w ls) (hs : (strayN w.fFar.fUsers w.fOwned w.fQueue.fJobs : Int) ≤ w.fLost) : (strayN (letGo w ls).fFar.fUsers (letGo w ls).fOwned (letGo w ls).fQueue.fJobs : Int) ≤ (letGo w ls).fLost := by
  have hd := far_dist h.fa
  have hu := ((far_iff _).1 h.fa).1
  have h1 := letAll_str ls hd hu hs
  have hA : (letAll w ls).fFar = w.fFar := by rw [letAll_same w ls]
  have h2 := rq_str (letAll w ls).fNow (letAll w ls).fOwned (letAll w ls).fLost (letAll w ls).fQueue.fJobs ⟨[], (letAll w ls).fFar, [], []⟩ (by dsimp only; rw [hA]; exact hd) (by dsimp only; rw [hA]; simpa using h1)
  have hm := (rq_made (letAll w ls).fNow (letAll w ls).fQueue.fJobs (letAll w ls).fFar).2
  have hlen := rq_far (now := (letAll w ls).fNow) (f := (letAll w ls).fFar) (by rw [hA]; exact h.fa) (by rw [hA]; exact fitFar_of h.fa) (letAll w ls).fQueue.fJobs
  have hl := ((far_iff _).1 hlen.1).1
  refine lose_ge ?_ ?_
  · exact h2
  · exact Nat.le_trans (stray_len _ _ _) hl
def nameIn (w : GWorld) (s : List UInt8) : Prop := (∃ u, u ∈ w.fFar.fUsers ∧ u.fName = s) ∨ (∃ o, o ∈ w.fOwned ∧ o.fName = s) ∨ ∃ j, j ∈ w.fQueue.fJobs ∧ j.fName = s
def NI (w : GWorld) : Prop := ∀ s, nameIn w s → ∃ (p : List UInt8) (k : Nat), s = p ++ six k ∧ 1 ≤ k ∧ (k : Int) ≤ w.fFar.fMade
theorem letFold_nm (w : GWorld) (id : Int) (os : List GOwned) : ∀ j, j ∈ (letFold w id os).1.fQueue.fJobs → (∃ i, i ∈ w.fQueue.fJobs ∧ i.fName = j.fName) ∨ ∃ o, o ∈ os ∧ o.fName = j.fName := by
  induction os using snoc_ind with
  | h0 => exact fun j hj => .inl ⟨j, hj, rfl⟩
  | h1 l x ih =>
    rw [letFold_snoc]
    generalize letFold w id l = s at ih ⊢
    obtain ⟨V, r⟩ := s
    dsimp only at ih
    have hmono : ∀ j : GJob, (∃ i, i ∈ w.fQueue.fJobs ∧ i.fName = j.fName) ∨ (∃ o, o ∈ l ∧ o.fName = j.fName) → (∃ i, i ∈ w.fQueue.fJobs ∧ i.fName = j.fName) ∨ ∃ o, o ∈ l ++ [x] ∧ o.fName = j.fName := fun j hj => by
      rcases hj with hj | ⟨o, ho, e⟩
      · exact .inl hj
      · exact .inr ⟨o, by simp [ho], e⟩
    have hq := (qDrop_jobs (q := V.fQueue) (s := x.fName) (now := V.fNow)).2.2
    have hlast : ∀ j, j ∈ (qDropQ V.fQueue x.fName V.fNow).fJobs → (∃ i, i ∈ w.fQueue.fJobs ∧ i.fName = j.fName) ∨ ∃ o, o ∈ l ++ [x] ∧ o.fName = j.fName := fun j hj => by
      rcases hq j hj with hj | e
      · exact hmono j (ih j hj)
      · exact .inr ⟨x, by simp, e.symm⟩
    unfold letStep
    split
    · dsimp only
      unfold letHit
      split
      · exact hlast
      · exact hlast
    · exact fun j hj => hmono j (ih j hj)
theorem letOne_nm (w : GWorld) (l : GLease) : ∀ s, nameIn (letOne w l) s → nameIn w s := by
  obtain ⟨h1, h2⟩ := letFold_same w l.fId w.fOwned
  have hf : (letOne w l).fFar = w.fFar := by unfold letOne; rw [h1]
  have ho : (letOne w l).fOwned = w.fOwned.filter fun o => !decide (o.fLease = l.fId) := by unfold letOne; rw [h2]
  have hq := letFold_nm w l.fId w.fOwned
  rintro s (⟨u, hu, e⟩ | ⟨o, hoo, e⟩ | ⟨j, hj, e⟩)
  · rw [hf] at hu; exact .inl ⟨u, hu, e⟩
  · rw [ho] at hoo; exact .inr (.inl ⟨o, (List.mem_filter.1 hoo).1, e⟩)
  · rcases hq j hj with ⟨i, hi, e2⟩ | ⟨o, ho, e2⟩
    · exact .inr (.inr ⟨i, hi, e2.trans e⟩)
    · exact .inr (.inl ⟨o, ho, e2.trans e⟩)
theorem letAll_nm (w : GWorld) (ls : List GLease) : ∀ s, nameIn (letAll w ls) s → nameIn w s := by
  unfold letAll
  induction ls generalizing w with
  | nil => exact fun s h => h
  | cons l r ih => exact fun s h => letOne_nm w l s (ih (letOne w l) s h)
theorem letGo_ni {w : GWorld} {ls : List GLease} (h : WOk w ls) (hn : NI w) : NI (letGo w ls) ∧ (letGo w ls).fFar.fMade = w.fFar.fMade := by
  have hL := letAll_ok (letOk_w h) ls
  have hA : (letAll w ls).fFar = w.fFar := by rw [letAll_same w ls]
  have hm := rq_made (letAll w ls).fNow (letAll w ls).fQueue.fJobs (letAll w ls).fFar
  have hq := (queue_iff _).1 hL.qb
  have hr2 := (rq_jobs hL.now (letAll w ls).fQueue.fJobs ⟨[], (letAll w ls).fFar, [], []⟩ hq.2.1 hq.2.2).1
  have e1 : (letGo w ls).fFar = (rq (letAll w ls).fNow (letAll w ls).fQueue.fJobs (letAll w ls).fFar).far := rfl
  have e2 : (letGo w ls).fQueue.fJobs = (rq (letAll w ls).fNow (letAll w ls).fQueue.fJobs (letAll w ls).fFar).jobs := rfl
  have e3 : (letGo w ls).fOwned = (letAll w ls).fOwned := rfl
  have hmade : (letGo w ls).fFar.fMade = w.fFar.fMade := by rw [e1, hm.1, hA]
  refine ⟨fun s hs => ?_, hmade⟩
  rw [hmade]
  refine hn s (letAll_nm w ls s ?_)
  rcases hs with ⟨u, hu, e⟩ | ⟨o, ho, e⟩ | ⟨j, hj, e⟩
  · rw [e1] at hu; exact .inl ⟨u, hm.2 u hu, e⟩
  · rw [e3] at ho; exact .inr (.inl ⟨o, ho, e⟩)
  · rw [e2] at hj
    obtain ⟨i, hi, e3⟩ := (hr2 j hj).2
    exact .inr (.inr ⟨i, hi, e3.trans e⟩)
theorem hasTok_less {f : GForest} {G : List Int} {id : Int} (h : hasTok f id = true) (hg : G.contains id = false) : hasTok (lessF f G) id = true := by
  unfold hasTok lessF at *
  obtain ⟨t, ht, e⟩ := List.any_eq_true.1 h
  refine List.any_eq_true.2 ⟨t, List.mem_filter.2 ⟨ht, ?_⟩, e⟩
  rw [of_decide_eq_true e, hg]; rfl
theorem lessF_ok {f : GForest} (h : forestB f = true) (p : GToken → Bool) : forestB (lessF f (wo p f.fTokens).2) = true := by
  obtain ⟨h1, h2, h3⟩ := (forest_iff f).1 h
  have hw := forest_wo h p
  refine (forest_iff _).2 ⟨Nat.le_trans (List.length_filter_le _ _) h1, fun t ht => ?_, h3.filter _⟩
  obtain ⟨a, b⟩ := List.mem_filter.1 ht
  refine ⟨(h2 t a).1, ?_⟩
  rcases (h2 t a).2 with e | e
  · exact .inl e
  · right
    have hr := hw.rec_ t a
    have hc : (wo p f.fTokens).2.contains t.fId = false := by simpa using b
    rw [hc] at hr
    refine hasTok_less e ?_
    cases hp : (wo p f.fTokens).2.contains t.fParent with
    | false => rfl
    | true => rw [hp, Bool.or_true] at hr; cases hr
theorem hasLease_filter {b : GBook} {id : Int} (p : GLease → Bool) (h : hasLease b id = true) (hp : ∀ l, l ∈ b.fLeases → l.fId = id → p l = true) : hasLease ⟨b.fLeases.filter p⟩ id = true := by
  unfold hasLease at *
  obtain ⟨t, ht, e⟩ := List.any_eq_true.1 h
  exact List.any_eq_true.2 ⟨t, List.mem_filter.2 ⟨ht, hp t ht (of_decide_eq_true e)⟩, e⟩
theorem book_filter {b : GBook} (p : GLease → Bool) (h : bookB b = true) : bookB ⟨b.fLeases.filter p⟩ = true := by
  obtain ⟨h1, h2, h3⟩ := (book_iff b).1 h
  exact (book_iff _).2 ⟨Nat.le_trans (List.length_filter_le _ _) h1, fun t ht => h2 t (List.mem_filter.1 ht).1, h3.filter _⟩
theorem less_ok {w : GWorld} {now : Int} {f : GForest} {ls : List GLease} (p : GLease → Bool) (h : WOk w []) (hn : 0 ≤ now ∧ now ≤ 1000000000) (hf : forestB f = true) (hft : ∀ t, t ∈ f.fTokens → t ∈ w.fForest.fTokens) (hl : ∀ l, l ∈ w.fBook.fLeases → p l = false → l ∈ ls) :
    WOk { w with fNow := now, fForest := f, fBook := ⟨w.fBook.fLeases.filter p⟩ } ls := by
  obtain ⟨h1, h2, h3, h4, h5, h6, h7, h8, h9, h10, h11, h12, h13, h14⟩ := h
  refine ⟨hn, h2, h3, hf, book_filter p h5, h6, h7, fun t ht => h8 t (hft t ht), fun l hl => h9 l (List.mem_filter.1 hl).1, h10, fun o ho hno => ?_, h12, h13, h14⟩
  refine hasLease_filter p (h11 o ho rfl) fun l hlm hid => ?_
  cases hp : p l with
  | true => rfl
  | false =>
    rw [List.any_eq_false] at hno
    exact absurd (decide_eq_true hid) (hno l (hl l hlm hp))
structure Lived (w : GWorld) : Prop where
  ok : worldB w = true
  str : (strayN w.fFar.fUsers w.fOwned w.fQueue.fJobs : Int) ≤ w.fLost
  ni : NI w
  ti : ∀ l, l ∈ w.fBook.fLeases → hasTok w.fForest l.fToken = true
theorem letGo_flds (w : GWorld) (ls : List GLease) : (letGo w ls).fNow = w.fNow ∧ (letGo w ls).fNext = w.fNext ∧ (letGo w ls).fForest = w.fForest ∧ (letGo w ls).fBook = w.fBook := by
  have hA := letAll_same w ls
  refine ⟨?_, ?_, ?_, ?_⟩
  · show (letAll w ls).fNow = _; rw [hA]
  · show (letAll w ls).fNext = _; rw [hA]
  · show (letAll w ls).fForest = _; rw [hA]
  · show (letAll w ls).fBook = _; rw [hA]
theorem less_lived {w : GWorld} {now : Int} {f : GForest} {ls : List GLease} (p : GLease → Bool) (h : Lived w) (hn : 0 ≤ now ∧ now ≤ 1000000000) (hf : forestB f = true) (hft : ∀ t, t ∈ f.fTokens → t ∈ w.fForest.fTokens) (hl : ∀ l, l ∈ w.fBook.fLeases → p l = false → l ∈ ls)
    (ht : ∀ l, l ∈ w.fBook.fLeases → p l = true → hasTok f l.fToken = true) : Lived (letGo { w with fNow := now, fForest := f, fBook := ⟨w.fBook.fLeases.filter p⟩ } ls) := by
  have hw := less_ok p ((world_iff w).1 h.ok) hn hf hft hl
  obtain ⟨e1, e2, e3, e4⟩ := letGo_flds { w with fNow := now, fForest := f, fBook := ⟨w.fBook.fLeases.filter p⟩ } ls
  refine ⟨(world_iff _).2 (letGo_ok hw), letGo_str hw h.str, (letGo_ni hw h.ni).1, ?_⟩
  rw [e3, e4]
  intro l hl
  obtain ⟨a, b⟩ := List.mem_filter.1 hl
  exact ht l a b
theorem cutL_id {w : GWorld} {id : Int} (h : hasLease w.fBook id = true) : (cutL w id).fId = id := by
  unfold cutL
  unfold hasLease at h
  cases hf : w.fBook.fLeases.find? (fun l => decide (l.fId = id)) with
  | none =>
    rw [List.find?_eq_none] at hf
    obtain ⟨x, hx, e⟩ := List.any_eq_true.1 h
    exact absurd e (hf x hx)
  | some x => show x.fId = id; exact of_decide_eq_true (List.find?_some (p := fun l : GLease => decide (l.fId = id)) hf)
theorem cutL_mem {w : GWorld} {id : Int} (h : hasLease w.fBook id = true) : cutL w id ∈ w.fBook.fLeases := by
  unfold cutL
  unfold hasLease at h
  cases hf : w.fBook.fLeases.find? (fun l => decide (l.fId = id)) with
  | none =>
    rw [List.find?_eq_none] at hf
    obtain ⟨x, hx, e⟩ := List.any_eq_true.1 h
    exact absurd e (hf x hx)
  | some x => exact List.mem_of_find?_eq_some hf
theorem book_uniq {b : GBook} (h : bookB b = true) {x y : GLease} (hx : x ∈ b.fLeases) (hy : y ∈ b.fLeases) (e : x.fId = y.fId) : x = y := by
  obtain ⟨i, hi⟩ := List.getElem?_of_mem hx
  obtain ⟨j, hj⟩ := List.getElem?_of_mem hy
  have hp := ((book_iff b).1 h).2.2
  rcases Nat.lt_trichotomy i j with hij | hij | hij
  · have := pw_get hp hij hi hj; omega
  · subst hij; rw [hi] at hj; exact Option.some.inj hj
  · have := pw_get hp hij hj hi; omega
theorem lived_cut {w : GWorld} (h : Lived w) (id : Int) : Lived (cutW w id) := by
  unfold cutW
  split
  · rename_i hb
    unfold cutB at hb
    rw [Bool.and_eq_true] at hb
    have hw := (world_iff w).1 h.ok
    refine less_lived (now := w.fNow) (f := w.fForest) (fun l => !(decide (l.fId = id))) h hw.now hw.fo (fun _ ht => ht) (fun l hl hp => ?_) fun l hl _ => h.ti l hl
    have e : l.fId = id := by simpa using hp
    have := book_uniq hw.bo (cutL_mem hb.2) hl ((cutL_id hb.2).trans e.symm)
    rw [this]; simp
  · exact h
theorem lived_ct {w : GWorld} (h : Lived w) (id : Int) : Lived (ctW w id) := by
  unfold ctW
  split
  · have hw := (world_iff w).1 h.ok
    have hg : goneT w.fForest id = (wo (fun t => decide (t.fId = id)) w.fForest.fTokens).2 := by unfold goneT; rw [if_pos hw.fo]
    rw [hg]
    have hfo := lessF_ok hw.fo (fun t => decide (t.fId = id))
    generalize (wo (fun t => decide (t.fId = id)) w.fForest.fTokens).2 = G at *
    refine less_lived (now := w.fNow) (f := lessF w.fForest G) (ls := goneL w.fBook G) (fun l => !G.contains l.fToken) h hw.now hfo (fun t ht => (List.mem_filter.1 ht).1) (fun l hl hp => List.mem_filter.2 ⟨hl, by simpa using hp⟩) fun l hl hp => ?_
    exact hasTok_less (h.ti l hl) (by simpa using hp)
  · exact h
theorem over_mem {b : GBook} {now : Int} (h : b.fLeases.Pairwise fun x y => x.fId < y.fId) : (overO b now).Perm (b.fLeases.filter fun l => decide (l.fEnds ≤ now)) := by
  have hT : (b.fLeases.filter fun l => decide (l.fEnds ≤ now)).Pairwise (TB ltE ordE) := by
    refine (h.filter _).imp fun {x y} hxy => ⟨fun hl => ?_, fun hl => ?_⟩
    · exact Or.inl (of_decide_eq_true hl)
    · have := of_decide_eq_false hl
      unfold ordE; omega
  exact (stable_at ordE_tr _ hT).1
theorem pt_flds {w : GWorld} {now : Int} (h : ptB w now = true) : (ptW w now).fNow = now ∧ (ptW w now).fNext = w.fNext ∧ (ptW w now).fForest = lessF w.fForest (sweepF w.fForest now) ∧ (ptW w now).fBook = keepO (ptK w now) now := by
  unfold ptW
  rw [if_pos h]
  exact letGo_flds _ _
theorem lived_pt {w : GWorld} (h : Lived w) (now : Int) : Lived (ptW w now) := by
  unfold ptW
  split
  · rename_i hb
    unfold ptB at hb
    rw [Bool.and_eq_true] at hb
    have hw := (world_iff w).1 h.ok
    have hn := inB_true hb.2
    have hfo := lessF_ok hw.fo (fun t => overB t.fEnds now)
    have hX : ptX w now = { w with fNow := now, fForest := lessF w.fForest (sweepF w.fForest now), fBook := ⟨w.fBook.fLeases.filter fun l => (!decide (l.fEnds ≤ now)) && !(sweepF w.fForest now).contains l.fToken⟩ } := by
      unfold ptX keepO ptK keepL; rw [List.filter_filter]
    have hov := over_mem (b := ptK w now) (now := now) (((book_iff _).1 hw.bo).2.2.filter _)
    rw [hX]
    refine less_lived (now := now) (f := lessF w.fForest (sweepF w.fForest now)) (ls := ptL w now) (fun l => (!decide (l.fEnds ≤ now)) && !(sweepF w.fForest now).contains l.fToken) h ⟨by have := hw.now; omega, hn.2⟩ hfo (fun t ht => (List.mem_filter.1 ht).1) (fun l hl hp => ?_) fun l hl hp => ?_
    · unfold ptL
      refine List.mem_append.2 ?_
      cases hc : (sweepF w.fForest now).contains l.fToken with
      | true => exact .inl (List.mem_filter.2 ⟨hl, hc⟩)
      | false =>
        refine .inr (hov.mem_iff.2 (List.mem_filter.2 ⟨List.mem_filter.2 ⟨hl, by rw [hc]; rfl⟩, ?_⟩))
        rw [hc] at hp; simpa using hp
    · rw [Bool.and_eq_true] at hp
      exact hasTok_less (h.ti l hl) (by simpa using hp.2)
  · exact h
theorem grant_ok {w : GWorld} {tok : Int} {path : List UInt8} {ttl limit : Int} (h : WOk w []) (hg : grantB w tok path ttl limit = true) : WOk { w with fBook := ⟨w.fBook.fLeases ++ [newL w tok path ttl limit]⟩, fNext := w.fNext + 1 } [] := by
  unfold grantB grantOk addL at hg
  simp only [Bool.and_eq_true, Bool.not_eq_true', decide_eq_false_iff_not] at hg
  obtain ⟨⟨-, ⟨⟨hk, hx⟩, -⟩, -⟩, -, hb⟩ := hg
  obtain ⟨h1, h2, h3, h4, h5, h6, h7, h8, h9, h10, h11, h12, h13, h14⟩ := h
  refine ⟨h1, ⟨by show 1 ≤ w.fNext + 1; omega, by show w.fNext + 1 ≤ _; omega⟩, h3, h4, hb, h6, h7, fun t ht => ?_, fun l hl => ?_, h10, fun o ho _ => ?_, h12, h13, h14⟩
  · have := h8 t ht; show _ < w.fNext + 1; omega
  · show _ < w.fNext + 1
    rcases List.mem_append.1 hl with hl | hl
    · have := h9 l hl; omega
    · simp at hl; subst hl; show w.fNext < _; omega
  · have := h11 o ho rfl
    unfold hasLease at this ⊢
    dsimp only
    rw [List.any_append, this]; rfl
theorem grant_tok {w : GWorld} {tok : Int} {path : List UInt8} {ttl limit : Int} (hg : grantB w tok path ttl limit = true) : hasTok w.fForest tok = true := by
  unfold grantB grantOk tokLive at hg
  simp only [Bool.and_eq_true] at hg
  exact hg.1.2.1.1.1.1
theorem lived_grant {w : GWorld} (h : Lived w) (tok : Int) (path : List UInt8) (ttl limit : Int) : Lived (grantW w tok path ttl limit) := by
  unfold grantW
  split
  · rename_i hg
    refine ⟨(world_iff _).2 (grant_ok ((world_iff w).1 h.ok) hg), h.str, h.ni, fun l hl => ?_⟩
    rcases List.mem_append.1 hl with hl | hl
    · exact h.ti l hl
    · simp at hl; subst hl; exact (grant_tok hg : hasTok w.fForest tok = true)
  · exact h
theorem decB_inj {a b i : Nat} (h : decB a i = decB b i) : a / 10 ^ i % 10 = b / 10 ^ i % 10 := by
  have h := congrArg UInt8.toNat h
  unfold decB at h
  rw [UInt8.toNat_ofNat', UInt8.toNat_ofNat'] at h
  omega
theorem six_inj {a b : Nat} (ha : a < 1000000) (hb : b < 1000000) (h : six a = six b) : a = b := by
  unfold six at h
  simp only [List.cons.injEq, and_true] at h
  obtain ⟨h5, h4, h3, h2, h1, h0⟩ := h
  have h0 := decB_inj h0
  have h1 := decB_inj h1
  have h2 := decB_inj h2
  have h3 := decB_inj h3
  have h4 := decB_inj h4
  have h5 := decB_inj h5
  simp only [Nat.reducePow, Nat.div_one] at h0 h1 h2 h3 h4 h5
  omega
theorem six_tail {p q : List UInt8} {a b : Nat} (ha : a < 1000000) (hb : b < 1000000) (h : p ++ six a = q ++ six b) : a = b := by
  have hl := congrArg List.length h
  simp only [List.length_append, six, List.length_cons, List.length_nil] at hl
  exact six_inj ha hb (List.append_inj h (by omega)).2
theorem put_mem {l : List GUser} {u x : GUser} : x ∈ putUs l u ↔ x ∈ l ∨ x = u := by
  unfold putUs
  have h : x ∈ l ↔ x ∈ l.take (lessN GUser.fName u.fName l) ∨ x ∈ l.drop (lessN GUser.fName u.fName l) := by
    rw [← List.mem_append, List.take_append_drop]
  rw [h]
  simp only [List.mem_append, List.mem_cons]
  constructor
  · rintro (h | h | h)
    · exact .inl (.inl h)
    · exact .inr h
    · exact .inl (.inr h)
  · rintro ((h | h) | h)
    · exact .inl h
    · exact .inr (.inr h)
    · exact .inr (.inl h)
theorem put_len (l : List GUser) (u : GUser) : (putUs l u).length = l.length + 1 := by
  unfold putUs
  have := congrArg List.length (List.take_append_drop (lessN GUser.fName u.fName l) l)
  simp only [List.length_append, List.length_cons] at this ⊢
  omega
theorem put_inc {l : List GUser} {u : GUser} (h : l.Pairwise (fun y x => Go.Op.bytesLess y.fName x.fName = true)) (hn : l.any (fun x => x.fName == u.fName) = false) : (putUs l u).Pairwise (fun y x => Go.Op.bytesLess y.fName x.fName = true) := by
  obtain ⟨s1, s2, s3⟩ := lessN_split (key := GUser.fName) u.fName h
  unfold putUs
  generalize lessN GUser.fName u.fName l = k at *
  rw [← List.take_append_drop k l, List.pairwise_append] at h
  rw [List.any_eq_false] at hn
  have e1 : ∀ x, x ∈ l.take k → Go.Op.bytesLess x.fName u.fName = true := fun x hx => by
    obtain ⟨m, hm⟩ := List.getElem?_of_mem hx
    have hml := (List.getElem?_eq_some_iff.1 hm).1
    rw [List.length_take] at hml
    rw [List.getElem?_take_of_lt (by omega)] at hm
    exact s2 m x (by omega) hm
  have e2 : ∀ x, x ∈ l.drop k → Go.Op.bytesLess u.fName x.fName = true := fun x hx => by
    obtain ⟨m, hm⟩ := List.getElem?_of_mem hx
    rw [List.getElem?_drop] at hm
    have hb := s3 (k + m) x (by omega) hm
    have hne : x.fName ≠ u.fName := fun e => hn x (List.mem_of_mem_drop hx) (by rw [e]; simp)
    rcases bl_total hne with h | h
    · rw [hb] at h; cases h
    · exact h
  rw [List.pairwise_append, List.pairwise_cons]
  refine ⟨h.1, ⟨e2, h.2.1⟩, fun a ha b hb => ?_⟩
  rcases List.mem_cons.1 hb with rfl | hb
  · exact e1 a ha
  · exact h.2.2 a ha b hb
theorem put_stray {l : List GUser} {u : GUser} {ow ow' : List GOwned} {js : List GJob} (hk : knownU ow' js u.fName = true) (hm : ∀ s, knownU ow js s = true → knownU ow' js s = true) : strayN (putUs l u) ow' js ≤ strayN l ow js := by
  have h0 := stray_le (us := l) (us' := l) (ow := ow) (ow' := ow') (js := js) (js' := js) (fun _ => true) (List.filter_eq_self.2 fun _ _ => rfl).symm fun x _ h => hm _ h
  refine Nat.le_trans (Nat.le_of_eq ?_) h0
  unfold strayN putUs
  conv => rhs; rw [← List.take_append_drop (lessN GUser.fName u.fName l) l]
  rw [List.filter_append, List.filter_append, List.filter_cons, hk]
  simp
theorem muC_one {f : GFar} {r : GRole} {key : Int} : muC f r key = 1 ↔ (roleB r && keyB key && !decide (f.fMade = 1000000000)) = false := by
  unfold muC
  split
  · simp_all
  · rename_i h
    constructor
    · intro h2; repeat' split at h2
      all_goals (try omega)
    · intro h2; exact absurd h2 h
theorem muF_ok {f : GFar} {r : GRole} {key : Int} (h : farB f = true) : farB (muF f r key) = true ∧ f.fMade ≤ (muF f r key).fMade ∧ (muF f r key).fMade ≤ f.fMade + 1 ∧ (muC f r key ≠ 0 → (muF f r key).fUsers = f.fUsers) ∧
    (muC f r key = 0 → (muF f r key).fUsers = putUs f.fUsers (muN f r key) ∧ (muF f r key).fMade = f.fMade + 1 ∧ nameOk (muN f r key).fName = true ∧ muU f r key = muN f r key) := by
  obtain ⟨h1, h2, h3, h4, h5⟩ := (far_iff f).1 h
  have hff := inB_true h2
  have hfm := inB_true h3
  unfold muF muU
  split
  · rename_i hc
    rw [hc]
    refine ⟨(far_iff _).2 ⟨h1, ?_, h3, h4, h5⟩, by dsimp only; omega, by dsimp only; omega, fun _ => rfl, fun h => by omega⟩
    unfold muC at hc
    refine inB_mk ?_ ?_
    · dsimp only; repeat' split at hc
      all_goals omega
    · dsimp only; omega
  · split
    · rename_i hc
      rw [hc]
      have hx : f.fMade ≠ 1000000000 := by
        intro e
        have : muC f r key = 1 := muC_one.2 (by rw [e]; simp)
        omega
      exact ⟨(far_iff _).2 ⟨h1, h2, inB_mk (by dsimp only; omega) (by dsimp only; omega), h4, h5⟩, by dsimp only; omega, by dsimp only; omega, fun _ => rfl, fun h => by omega⟩
    · split
      · rename_i hc
        have hn1 : ¬ (roleB r && keyB key && !decide (f.fMade = 1000000000)) = false := fun h => by have := muC_one.2 h; omega
        have hh := hc
        unfold muC at hh
        rw [if_neg hn1] at hh
        simp only [Bool.not_eq_false, Bool.and_eq_true, Bool.not_eq_true', decide_eq_false_iff_not] at hn1
        have hno : f.fUsers.any (fun u => u.fName == uName r (f.fMade + 1)) = false := by
          repeat' split at hh
          all_goals (first | omega | (rename_i hq _; simpa using hq))
        have hl : f.fUsers.length ≠ 120 := by
          repeat' split at hh
          all_goals (first | omega | assumption)
        have hnm := (uName_ok hn1.1.1 (f.fMade + 1)).1
        refine ⟨(far_iff _).2 ⟨by dsimp only; rw [put_len]; omega, h2, inB_mk (by dsimp only; omega) (by dsimp only; omega), fun u hu => ?_, put_inc h5 hno⟩, by dsimp only; omega, by dsimp only; omega, fun h => absurd hc h, fun _ => ⟨rfl, rfl, hnm, rfl⟩⟩
        rcases put_mem.1 hu with hu | rfl
        · exact h4 u hu
        · exact hnm
      · rename_i hc
        exact ⟨h, by omega, by omega, fun _ => rfl, fun h => absurd h hc⟩
theorem lived_gu {w : GWorld} (h : Lived w) (hm : w.fFar.fMade < 999999) (tok : Int) (r : GRole) (key : Int) (path : List UInt8) : Lived (guW w tok r key path) ∧ (guW w tok r key path).fFar.fMade ≤ w.fFar.fMade + 1 ∧ (guW w tok r key path).fNext ≤ w.fNext + 1 ∧ (guW w tok r key path).fNow = w.fNow := by
  have hw := (world_iff w).1 h.ok
  have hfm : 0 ≤ w.fFar.fMade := (inB_true ((far_iff _).1 hw.fa).2.2.1).1
  obtain ⟨f1, f2, f3, f4, f5⟩ := muF_ok (r := r) (key := key) hw.fa
  have hni : ∀ s, nameIn w s → ∃ (p : List UInt8) (k : Nat), s = p ++ six k ∧ 1 ≤ k ∧ (k : Int) ≤ (muF w.fFar r key).fMade := fun s hs => by
    obtain ⟨p, k, a, b, c⟩ := h.ni s hs; exact ⟨p, k, a, b, by omega⟩
  unfold guW
  split
  · exact ⟨h, by omega, by omega, rfl⟩
  · rename_i hc1
    split
    · rename_i hc
      have hmc : muC w.fFar r key ≠ 0 := by
        unfold guC at hc; split at hc
        · omega
        · split at hc
          · omega
          · assumption
      have hu := f4 hmc
      refine ⟨⟨(world_iff _).2 ?_, ?_, fun s hs => hni s ?_, h.ti⟩, f3, by dsimp only; omega, rfl⟩
      · obtain ⟨h1, h2, h3, h4, h5, h6, h7, h8, h9, h10, h11, h12, h13, h14⟩ := hw
        exact ⟨h1, h2, h3, h4, h5, f1, h7, h8, h9, h10, h11, h12, h13, h14⟩
      · dsimp only; rw [hu]; exact h.str
      · rcases hs with ⟨u, hu2, e⟩ | hs
        · dsimp only at hu2; rw [hu] at hu2; exact .inl ⟨u, hu2, e⟩
        · exact .inr hs
    · rename_i hc2
      have hok : guOk w tok r key path = true ∧ muC w.fFar r key = 0 := by
        unfold guC at hc1 hc2
        split at hc1
        · omega
        · rename_i hk
          refine ⟨by simpa using hk, ?_⟩
          rw [if_neg hk] at hc2
          split at hc2
          · assumption
          · omega
      obtain ⟨g1, g2⟩ := hok
      obtain ⟨u1, u2, u3, u4⟩ := f5 g2
      unfold guOk at g1
      simp only [Bool.and_eq_true] at g1
      have hg := g1.1.2
      have hgw : grantW w tok path r.fTtl r.fLimit = { w with fBook := ⟨w.fBook.fLeases ++ [newL w tok path r.fTtl r.fLimit]⟩, fNext := w.fNext + 1 } := by unfold grantW; rw [if_pos hg]
      have hgo := grant_ok hw hg
      rw [hgw, u4]
      have hnn : (muN w.fFar r key).fName = r.fPrefix ++ six (w.fFar.fMade + 1).toNat := rfl
      have hfresh : ∀ o, o ∈ w.fOwned → o.fName ≠ (muN w.fFar r key).fName := fun o ho e => by
        obtain ⟨p, k, a, b, c⟩ := h.ni o.fName (.inr (.inl ⟨o, ho, rfl⟩))
        rw [e, hnn] at a
        have := six_tail (by omega) (by omega) a
        omega
      obtain ⟨h1, h2, h3, h4, h5, h6, h7, h8, h9, h10, h11, h12, h13, h14⟩ := hgo
      have hol2 := ((world_iff w).1 h.ok).ol
      have hbl2 := hw.bl
      dsimp only at h10 h12 h13 h14
      refine ⟨⟨(world_iff _).2 ⟨h1, h2, h3, h4, h5, f1, h7, h8, h9, ?_, ?_, ?_, ?_, ?_⟩, ?_, ?_, ?_⟩, f3, by dsimp only; omega, rfl⟩
      · dsimp only
        rw [List.pairwise_append]
        refine ⟨h10, List.pairwise_singleton _ _, fun a ha b hb => ?_⟩
        simp at hb; subst hb
        have := hol2 a ha rfl
        unfold hasLease at this
        obtain ⟨l, hl, e⟩ := List.any_eq_true.1 this
        have := hbl2 l hl
        have := of_decide_eq_true e
        dsimp only; omega
      · intro o ho _
        rcases List.mem_append.1 ho with ho | ho
        · exact h11 o ho rfl
        · simp at ho; subst ho
          unfold hasLease
          dsimp only
          rw [List.any_append]
          simp [newL]
      · intro o ho
        rcases List.mem_append.1 ho with ho | ho
        · exact h12 o ho
        · simp at ho; subst ho; exact u3
      · dsimp only
        rw [List.pairwise_append]
        refine ⟨h13, List.pairwise_singleton _ _, fun a ha b hb => ?_⟩
        simp at hb; subst hb
        exact hfresh a ha
      · dsimp only
        have hl : w.fOwned.length ≤ w.fBook.fLeases.length := by
          refine inc_len (ka := GOwned.fLease) (kb := GLease.fId) _ _ hw.oi ((book_iff _).1 hw.bo).2.2 fun x hx => ?_
          have := hol2 x hx rfl
          unfold hasLease at this
          obtain ⟨l, hl, e⟩ := List.any_eq_true.1 this
          exact ⟨l, hl, of_decide_eq_true e⟩
        have := ((book_iff _).1 hw.bo).1
        simp only [List.length_append, List.length_cons, List.length_nil]
        omega
      · dsimp only
        rw [u1]
        refine Int.le_trans (Int.ofNat_le.2 (put_stray (ow := w.fOwned) ?_ fun s hs => ?_)) h.str
        · rw [known_iff]; exact .inl ⟨⟨w.fNext, (muN w.fFar r key).fName⟩, by simp, rfl⟩
        · rw [known_iff] at hs ⊢
          rcases hs with ⟨o, ho, e⟩ | hs
          · exact .inl ⟨o, by simp [ho], e⟩
          · exact .inr hs
      · intro s hs
        have hnew : ∃ (p : List UInt8) (k : Nat), (muN w.fFar r key).fName = p ++ six k ∧ 1 ≤ k ∧ (k : Int) ≤ (muF w.fFar r key).fMade := ⟨r.fPrefix, _, hnn, by omega, by rw [u2]; omega⟩
        rcases hs with ⟨u, hu, e⟩ | ⟨o, ho, e⟩ | hs
        · dsimp only at hu
          rw [u1] at hu
          rcases put_mem.1 hu with hu | rfl
          · exact hni s (.inl ⟨u, hu, e⟩)
          · rw [← e]; exact hnew
        · rcases List.mem_append.1 ho with ho | ho
          · exact hni s (.inr (.inl ⟨o, ho, e⟩))
          · simp at ho; subst ho; rw [← e]; exact hnew
        · exact hni s (.inr (.inr hs))
      · intro l hl
        rcases List.mem_append.1 hl with hl | hl
        · exact h.ti l hl
        · simp at hl; subst hl; exact (grant_tok hg : hasTok w.fForest tok = true)
theorem IndexFuncStringC_ok (a : List (List UInt8)) (g : FuncId) (caps : List (List D)) (p : List UInt8 → Bool) (hsz : a.length ≤ 281474976710656) (hp : ∀ x, x ∈ a → Valid PP GG g (.d (.str x) :: caps.map .rp) (.d (.bool (p x))) [none]) :
    Valid PP GG 152 [.d (.slc 1 (strsD a)), .d (.fn g caps)] (.d (.int .i64 (idxF p a))) [none, none] := by
  refine cv Tryz.func152 [.d (.int .i64 (idxF p a))] ?_
  refine u_40 ?_
  refine W_loop (fun n st => ∃ i : Nat, n = a.length - i ∧ i ≤ a.length ∧ (∀ x, x ∈ a.take i → p x = false) ∧
    st = ⟨[], [(0, .d (.slc 1 (strsD a))), (1, .d (.fn g caps)), (7, .d (.int .i64 a.length)), (8, .d (.int .i64 i))], [], 0⟩) _ ⟨0, rfl, by omega, fun x hx => by simp at hx, ?_⟩ ?_
  · exact u_53
  rintro n st ⟨i, rfl, hi, hn, rfl⟩
  by_cases hlt : i < a.length
  · have ha := List.getElem?_eq_getElem hlt
    have hm := List.getElem_mem hlt
    generalize a[i] = x at ha hm
    have cp := hp x hm
    cases hx : p x with
    | true =>
      have e := idxF_hit ha hn hx
      rw [hx] at cp
      rw [e]
      exact u_17 ha (Z1 cp)
    | false =>
      have hn2 := take_miss ha hn hx
      rw [hx] at cp
      refine u_18 ha (Z1 cp) ?_
      refine ⟨a.length - (i + 1), by omega, i + 1, rfl, hlt, hn2, ?_⟩
      refine u_54 ?_
      exact wrap_id (by omega) (by omega)
  · have hie : i = a.length := by omega
    subst hie
    rw [List.take_length] at hn
    rw [idxF_miss hn]
    exact u_21
theorem ContainsFuncStringC_ok (a : List (List UInt8)) (g : FuncId) (caps : List (List D)) (p : List UInt8 → Bool) (hsz : a.length ≤ 281474976710656) (hp : ∀ x, x ∈ a → Valid PP GG g (.d (.str x) :: caps.map .rp) (.d (.bool (p x))) [none]) :
    Valid PP GG 116 [.d (.slc 1 (strsD a)), .d (.fn g caps)] (.d (.bool (a.any p))) [none, none] := by
  refine cv Tryz.func116 [.d (.bool (a.any p))] ?_
  have ci := IndexFuncStringC_ok (GG := GG) a g caps p hsz hp
  have e := idxF_any p a
  exact u_24 e (Z1 ci)
theorem idxF_containsS (x : List UInt8) (a : List (List UInt8)) : decide (0 ≤ idxF (fun y => y == x) a) = a.contains x := by
  rw [idxF_any, Bool.eq_iff_iff, List.contains_iff_mem, List.any_eq_true]
  constructor
  · rintro ⟨y, h1, h2⟩; exact (beq_iff_eq.1 h2) ▸ h1
  · intro h; exact ⟨x, h, beq_self_eq_true x⟩
theorem IndexString_ok (a : List (List UInt8)) (x : List UInt8) (hsz : a.length ≤ 281474976710656) :
    Valid PP GG 153 [.d (.slc 1 (strsD a)), .d (.str x)] (.d (.int .i64 (idxF (fun y => y == x) a))) [none, none] := by
  refine cv Tryz.func153 [.d (.int .i64 (idxF (fun y => y == x) a))] ?_
  refine u_40 ?_
  refine W_loop (fun n st => ∃ i : Nat, n = a.length - i ∧ i ≤ a.length ∧ (∀ y, y ∈ a.take i → (y == x) = false) ∧
    st = ⟨[], [(0, .d (.slc 1 (strsD a))), (1, .d (.str x)), (7, .d (.int .i64 a.length)), (8, .d (.int .i64 i))], [], 0⟩) _ ⟨0, rfl, by omega, fun x hx => by simp at hx, ?_⟩ ?_
  · exact u_53
  rintro n st ⟨i, rfl, hi, hn, rfl⟩
  by_cases hlt : i < a.length
  · have ha := List.getElem?_eq_getElem hlt
    generalize a[i] = y at ha
    cases hx : (y == x) with
    | true =>
      have e := idxF_hit (p := fun y => y == x) ha hn hx
      have hx' : (x == y) = true := by rw [beq_iff_eq] at hx ⊢; exact hx.symm
      rw [e]
      exact u_55 (Y3 ha hx hx')
    | false =>
      have hn2 := take_miss (p := fun y => y == x) ha hn hx
      have hx' : (x == y) = false := by rw [beq_eq_false_iff_ne] at hx ⊢; exact fun e => hx e.symm
      repeat' (first | refine W_seq ?_ | refine W_skip ?_ | refine W_block ?_ | refine W_exit ?_ | refine pick_pos rfl ?_ | refine pick_neg rfl ?_ | ((first | refine W_regP fun K hK => ?_ | refine W_regPD fun K hK => ?_ | refine W_ret ?_); simp [Fin, ha, strs_get, hx, hx']) | (with_reducible refine hK _ ?_; clear hK K) | (with_reducible refine goL_split (fun h => ?_) (fun h => ?_) <;> first | (exfalso; simp at h; first | done | omega | contradiction) | ((try simp at h); simp [ha, strs_get, hx, hx'])) | with_reducible refine And.intro ?_ ?_ | with_reducible exact okay_rfl rfl | with_reducible assumption | (refine W_cond rfl (fun h => ?_) (fun h => ?_) <;> first | (exfalso; simp at h; first | done | omega | contradiction) | (exfalso; simp_all; done) | (try simp at h)) | omega)
      refine ⟨a.length - (i + 1), by omega, i + 1, rfl, hlt, hn2, ?_⟩
      refine u_54 ?_
      exact wrap_id (by omega) (by omega)
  · have hie : i = a.length := by omega
    subst hie
    rw [List.take_length] at hn
    rw [idxF_miss hn]
    exact u_21
theorem ContainsString_ok (a : List (List UInt8)) (x : List UInt8) (hsz : a.length ≤ 281474976710656) : Valid PP GG 118 [.d (.slc 1 (strsD a)), .d (.str x)] (.d (.bool (a.contains x))) [none, none] := by
  refine cv Tryz.func118 [.d (.bool (a.contains x))] ?_
  have ci := IndexString_ok (GG := GG) a x hsz
  have e := idxF_containsS x a
  exact u_24 e (Z1 ci)
def subN (a b : List (List UInt8)) : Bool := a.all fun n => b.contains n
def mkC (f : GForest) (t : GToken) : Int :=
  if (tokenB t && belowT f t.fId) = false then 1
  else if t.fParent = 0 then (if f.fTokens.length = 120 then 5 else 0)
  else if hasTok f t.fParent = false then 2
  else if overB (findT f t.fParent).fEnds t.fMade = true then 3
  else if subN t.fNames (findT f t.fParent).fNames = false then 4
  else if f.fTokens.length = 120 then 5 else 0
def mkF (f : GForest) (t : GToken) : GForest := if mkC f t = 0 then ⟨f.fTokens ++ [t]⟩ else f
theorem makeToken_c1_ok (s : List UInt8) (t : GToken) (ht : fitT t) : Valid PP GG 117 [.d (.str s), .rp t.row] (.d (.bool (!t.fNames.contains s))) [none] := by
  refine cv Tryz.func117 [.d (.bool (!t.fNames.contains s))] ?_
  have cc := ContainsString_ok (GG := GG) t.fNames s (by have := ht.1; omega)
  obtain ⟨t1, t2, t3, t4, t5, t6, t7⟩ := t
  dsimp only at *
  exact u_26 (Z1 cc)
theorem makeToken_ok [MaxL GG] (f : GForest) (t : GToken) (hf : fitF f) (ht : fitT t) (hb : forestB f = true) :
    Valid PP GG 63 [.agg f.c, .agg t.c] (.tup [.agg (mkF f t).o, .d (.int .i64 (mkC f t))]) [none, none] := by
  refine cv Tryz.func63 [.agg (mkF f t).o, .d (.int .i64 (mkC f t))] ?_
  have ccp := cloneForest_ok (GG := GG) f.fTokens hf
  have cit := isToken_ok (GG := GG) t ht
  have cix := tokenIndex_ok (GG := GG) f t.fParent hf.1
  have cct := cloneToken_ok (GG := GG) t ht
  have hC : mkC f t = if (tokenB t && belowT f t.fId) = false then 1
    else if t.fParent = 0 then (if f.fTokens.length = 120 then 5 else 0)
    else if hasTok f t.fParent = false then 2
    else if overB (findT f t.fParent).fEnds t.fMade = true then 3
    else if subN t.fNames (findT f t.fParent).fNames = false then 4
    else if f.fTokens.length = 120 then 5 else 0 := rfl
  have hF : mkF f t = if mkC f t = 0 then ⟨f.fTokens ++ [t]⟩ else f := rfl
  have hla := lastT hb t.fId
  have hno := idxF_none (fun x : GToken => decide (x.fId = t.fParent)) f.fTokens
  have hfi := fun h => idxF_find (p := fun x : GToken => decide (x.fId = t.fParent)) (l := f.fTokens) h
  have hT : findT f t.fParent = (f.fTokens.find? fun x => decide (x.fId = t.fParent)).getD zTok := by unfold findT; rw [if_pos hb]
  have hH : hasTok f t.fParent = f.fTokens.any fun x => decide (x.fId = t.fParent) := rfl
  have hl1 := hf.1
  have hft := hf.2
  have hl2 : f.fTokens.length ≤ 120 := by unfold forestB at hb; rw [Bool.and_eq_true] at hb; exact of_decide_eq_true hb.1
  generalize mkC f t = CC at *
  generalize mkF f t = FF at *
  generalize belowT f t.fId = BB at *
  generalize findT f t.fParent = PT at *
  generalize hasTok f t.fParent = HH at *
  clear hb
  obtain ⟨tk⟩ := f
  obtain ⟨t1, t2, t3, t4, t5, t6, t7⟩ := t
  dsimp only at *
  generalize tokenB ⟨t1, t2, t3, t4, t5, t6, t7⟩ = TB at *
  have hi1 := ind_rToken tk
  have hi2 := ind_strs t3
  have hrl := rToken_len tk
  cases TB
  · simp only [Bool.false_and, if_true] at hC
    subst hC
    simp only [Int.reduceEq, if_false] at hF
    subst hF
    clear cix cct hla hno hfi hT hH hft
    exact u_26 (Z2 ccp cit)
  cases BB
  · simp only [Bool.true_and, if_true] at hC
    subst hC
    simp only [Int.reduceEq, if_false] at hF
    subst hF
    rcases hla with ⟨_, h⟩ | ⟨k, x, hk, hx, hd⟩
    · cases h
    · have hge : (t1 ≤ x.fId) = True := by have := of_decide_eq_false hd.symm; simp; omega
      have hw : IntKind.i64.wrap (((tk.length : Nat) : Int) - 1) = (k : Int) := by rw [wrap_id (by omega) (by omega)]; omega
      have hp : ((0 : Int) < ((tk.length : Nat) : Int)) = True := by simp; omega
      clear cix cct hno hfi hT hH hft hd
      obtain ⟨x1, x2, x3, x4, x5, x6, x7⟩ := x
      dsimp only at hge
      exact u_24 (Y4 hx hge hw hp) (Z2 ccp cit)
  simp only [Bool.and_self, Bool.true_eq_false, if_false] at hC
  have happ : rToken (tk ++ [⟨t1, t2, t3, t4, t5, t6, t7⟩]) = rToken tk ++ [[.int .i64 t1, .int .i64 t2, .slc 1 (strsD t3), .int .i64 t4, .int .i64 t5, .int .i64 t6, .int .i64 t7]] := by rw [rToken_app]; rfl
  rcases hla with ⟨rfl, -⟩ | ⟨k, z, hk, hz, hd⟩
  · simp only [List.any_nil] at hH
    subst hH
    simp only [if_true] at hC
    have hno := of_decide_eq_true (hno.trans rfl)
    generalize idxF (fun x : GToken => decide (x.fId = t2)) [] = ix at *
    by_cases hp0 : t2 = 0
    · rw [if_pos hp0, if_neg (by simp)] at hC
      subst hC
      simp only [if_true] at hF
      subst hF
      subst hp0
      clear hfi hT hft
      refine u_42 happ (Z3 ccp cit cct) ?_
      rfl
    · rw [if_neg hp0] at hC
      subst hC
      simp only [Int.reduceEq, if_false] at hF
      subst hF
      have hp1 : (t2 != 0) = true := by simpa using hp0
      clear hfi hT hft
      exact u_24 (Y2 hp1 hno) (Z3 ccp cit cix)
  have hlt : (t1 ≤ z.fId) = False := by have := of_decide_eq_true hd.symm; simp; omega
  have hw : IntKind.i64.wrap (((tk.length : Nat) : Int) - 1) = (k : Int) := by rw [wrap_id (by omega) (by omega)]; omega
  have hp : ((0 : Int) < ((tk.length : Nat) : Int)) = True := by simp; omega
  clear hd
  obtain ⟨z1, z2, z3, z4, z5, z6, z7⟩ := z
  dsimp only at hlt
  by_cases hp0 : t2 = 0
  · rw [if_pos hp0] at hC
    subst hp0
    clear cix hno hfi hT hH hft
    by_cases hfl : tk.length = 120
    · rw [if_pos hfl] at hC
      subst hC
      simp only [Int.reduceEq, if_false] at hF
      subst hF
      have hq : (((tk.length : Nat) : Int) == 120) = true := by simp; omega
      exact u_24 (Y5 hz hlt hw hp hq) (Z3 ccp cit cct)
    · rw [if_neg hfl] at hC
      subst hC
      simp only [if_true] at hF
      subst hF
      have hq : (((tk.length : Nat) : Int) == 120) = false := by simp; omega
      exact u_41 (Y6 hz hlt hw hp hq happ) (Z3 ccp cit cct)
  rw [if_neg hp0] at hC
  have hp1 : (t2 != 0) = true := by simpa using hp0
  cases HH
  · simp only [if_true] at hC
    subst hC
    simp only [Int.reduceEq, if_false] at hF
    subst hF
    have hno2 : idxF (fun x : GToken => decide (x.fId = t2)) tk < 0 := of_decide_eq_true (by rw [hno, ← hH]; rfl)
    generalize idxF (fun x : GToken => decide (x.fId = t2)) tk = ix at *
    clear hfi hT hft hno hH
    exact u_24 (Y6 hz hlt hw hp hp1 hno2) (Z3 ccp cit cix)
  simp only [Bool.true_eq_false, if_false] at hC
  obtain ⟨m, x, hm, hx, _, hfd⟩ := hfi hH.symm
  rw [hfd] at hT
  simp only [Option.getD_some] at hT
  have hT := hT.symm
  subst hT
  rw [hm] at cix
  clear hfi hno hfd hH
  have hft := hft x (List.mem_of_getElem? hx)
  have hml := (List.getElem?_eq_some_iff.1 hx).1
  have cov := isOver_ok (GG := GG) x.fEnds t4
  have hxr := ind_strs x.fNames
  have cc := ContainsFuncStringC_ok (GG := GG) t3 117 [x.row] (fun s => !x.fNames.contains s) (by have := ht.1; dsimp only at this; omega) fun s _ => makeToken_c1_ok s x hft
  have hs : (t3.any fun s => !x.fNames.contains s) = !subN t3 x.fNames := by unfold subN; rw [List.not_all_eq_any_not]
  rw [hs] at cc
  clear hs
  generalize overB x.fEnds t4 = OB at *
  generalize subN t3 x.fNames = SB at *
  obtain ⟨x1, x2, x3, x4, x5, x6, x7⟩ := x
  dsimp only at *
  cases OB
  · simp only [Bool.false_eq_true, if_false] at hC
    cases SB
    · simp only [if_true] at hC
      subst hC
      simp only [Int.reduceEq, if_false] at hF
      subst hF
      exact u_24 (Y6 hz hlt hw hp hp1 hx) (Z5 ccp cit cix cov cc)
    · simp only [Bool.true_eq_false, if_false] at hC
      by_cases hfl : tk.length = 120
      · rw [if_pos hfl] at hC
        subst hC
        simp only [Int.reduceEq, if_false] at hF
        subst hF
        have hq : (((tk.length : Nat) : Int) == 120) = true := by simp; omega
        exact u_24 (Y7 hz hlt hw hp hp1 hx hq) (Z6 ccp cit cix cov cc cct)
      · rw [if_neg hfl] at hC
        subst hC
        simp only [if_true] at hF
        subst hF
        have hq : (((tk.length : Nat) : Int) == 120) = false := by simp; omega
        exact u_41 (Y8 hz hlt hw hp hp1 hx hq happ) (Z6 ccp cit cix cov cc cct)
  · simp only [if_true] at hC
    subst hC
    simp only [Int.reduceEq, if_false] at hF
    subst hF
    exact u_24 (Y6 hz hlt hw hp hp1 hx) (Z4 ccp cit cix cov)
theorem i_MakeToken_ok [MaxL GG] (f : GForest) (t : GToken) (hf : fitF f) (ht : fitT t) (hb : forestB f = true) :
    Valid PP GG 21 [.agg f.c, .agg t.c] (.tup [.agg (mkF f t).o, .d (.int .i64 (mkC f t))]) [none, none] := by
  refine cv Tryz.func21 [.agg (mkF f t).o, .d (.int .i64 (mkC f t))] ?_
  have cfo := isForest_ok (GG := GG) f hf
  rw [hb] at cfo
  have cm := makeToken_ok (GG := GG) f t hf ht hb
  have hi1 := ind_rToken f.fTokens
  have hi2 := ind_strs t.fNames
  have hi3 := ind_rToken (mkF f t).fTokens
  generalize mkF f t = FF at *
  generalize mkC f t = CC at *
  obtain ⟨t1, t2, t3, t4, t5, t6, t7⟩ := t
  dsimp only at *
  exact u_26 (Z2 cfo cm)
theorem mk_zero {f : GForest} {t : GToken} (h : mkC f t = 0) : tokenB t = true ∧ belowT f t.fId = true ∧ f.fTokens.length ≠ 120 ∧ (t.fParent = 0 ∨ hasTok f t.fParent = true) := by
  unfold mkC at h
  split at h
  · omega
  · rename_i h1
    simp only [Bool.not_eq_false, Bool.and_eq_true] at h1
    split at h
    · rename_i hp
      split at h
      · omega
      · exact ⟨h1.1, h1.2, by assumption, .inl hp⟩
    · split at h
      · omega
      · rename_i hh
        repeat' split at h
        all_goals (first | omega | exact ⟨h1.1, h1.2, by assumption, .inr (by simpa using hh)⟩)
theorem hasTok_app {f : GForest} {l : List GToken} {id : Int} (h : hasTok f id = true) : hasTok ⟨f.fTokens ++ l⟩ id = true := by
  unfold hasTok at *
  dsimp only
  rw [List.any_append, h]; rfl
theorem mkF_ok {f : GForest} {t : GToken} (hb : forestB f = true) (h : mkC f t = 0) : forestB ⟨f.fTokens ++ [t]⟩ = true := by
  obtain ⟨h1, h2, h3, h4⟩ := mk_zero h
  obtain ⟨a1, a2, a3⟩ := (forest_iff f).1 hb
  unfold belowT at h2
  rw [List.all_eq_true] at h2
  refine (forest_iff _).2 ⟨by simp only [List.length_append, List.length_cons, List.length_nil]; omega, fun x hx => ?_, ?_⟩
  · rcases List.mem_append.1 hx with hx | hx
    · exact ⟨(a2 x hx).1, (a2 x hx).2.imp id hasTok_app⟩
    · simp at hx; subst hx
      exact ⟨h1, h4.imp id hasTok_app⟩
  · dsimp only
    rw [List.pairwise_append]
    refine ⟨a3, List.pairwise_singleton _ _, fun a ha b hb => ?_⟩
    simp at hb; subst hb
    exact of_decide_eq_true (h2 a ha)
theorem lived_mk {w : GWorld} {t : GToken} (h : Lived w) (hc : mkC w.fForest t = 0) (ht : t.fId = w.fNext) (hn : w.fNext < 1000000000) : Lived { w with fForest := mkF w.fForest t, fNext := w.fNext + 1 } := by
  have hw := (world_iff w).1 h.ok
  have hF : mkF w.fForest t = ⟨w.fForest.fTokens ++ [t]⟩ := by unfold mkF; rw [if_pos hc]
  rw [hF]
  obtain ⟨h1, h2, h3, h4, h5, h6, h7, h8, h9, h10, h11, h12, h13, h14⟩ := hw
  refine ⟨(world_iff _).2 ⟨h1, ⟨by dsimp only; omega, by dsimp only; omega⟩, h3, mkF_ok h4 hc, h5, h6, h7, fun x hx => ?_, fun l hl => ?_, h10, h11, h12, h13, h14⟩, h.str, h.ni, fun l hl => hasTok_app (h.ti l hl)⟩
  · dsimp only at hx ⊢
    rcases List.mem_append.1 hx with hx | hx
    · have := h8 x hx; omega
    · simp at hx; subst hx; omega
  · have := h9 l hl; dsimp only; omega
theorem filt_len {α : Type} (p : α → Bool) (l : List α) : (l.filter p).length + (l.filter fun x => !p x).length = l.length := by
  induction l with
  | nil => rfl
  | cons a t ih =>
    simp only [List.filter_cons, List.length_cons]
    cases p a <;> simp <;> omega
theorem pt_count {w : GWorld} {now : Int} (hb : bookB w.fBook = true) : (keepO (ptK w now) now).fLeases.length + (ptL w now).length = w.fBook.fLeases.length := by
  have h1 := (over_mem (b := ptK w now) (now := now) (((book_iff _).1 hb).2.2.filter _)).length_eq
  have h2 := filt_len (fun l : GLease => decide (l.fEnds ≤ now)) (ptK w now).fLeases
  have h3 := filt_len (fun l : GLease => (sweepF w.fForest now).contains l.fToken) w.fBook.fLeases
  have e1 : (keepO (ptK w now) now).fLeases = (ptK w now).fLeases.filter fun l => !decide (l.fEnds ≤ now) := rfl
  have e2 : (ptK w now).fLeases = w.fBook.fLeases.filter fun l => !(sweepF w.fForest now).contains l.fToken := rfl
  have e3 : ptL w now = (w.fBook.fLeases.filter fun l => (sweepF w.fForest now).contains l.fToken) ++ overO (ptK w now) now := rfl
  rw [e1, e3, List.length_append, h1]
  rw [← e2] at h3
  omega
theorem pt_end {w : GWorld} (h : Lived w) : ptB w w.fNow = true ∧ (ptW w w.fNow).fNow = w.fNow ∧ ∀ l, l ∈ (ptW w w.fNow).fBook.fLeases → forestB (ptW w w.fNow).fForest = true ∧ hasTok (ptW w w.fNow).fForest l.fToken = true ∧ overB (findT (ptW w w.fNow).fForest l.fToken).fEnds w.fNow = false ∧ w.fNow < l.fEnds := by
  have hw := (world_iff w).1 h.ok
  have hb : ptB w w.fNow = true := by unfold ptB; rw [h.ok]; exact inB_mk (Int.le_refl _) hw.now.2
  have hL := lived_pt h w.fNow
  have hW := (world_iff _).1 hL.ok
  obtain ⟨f1, f2, f3, f4⟩ := pt_flds hb
  refine ⟨hb, f1, fun l hl => ⟨hW.fo, hL.ti l hl, ?_, ?_⟩⟩
  · have ht := hL.ti l hl
    have hfo := hW.fo
    rw [f3] at ht hfo ⊢
    unfold findT
    rw [if_pos hfo]
    unfold hasTok at ht
    cases hf : (lessF w.fForest (sweepF w.fForest w.fNow)).fTokens.find? (fun t => decide (t.fId = l.fToken)) with
    | none =>
      rw [List.find?_eq_none] at hf
      obtain ⟨x, hx, e⟩ := List.any_eq_true.1 ht
      exact absurd e (hf x hx)
    | some t =>
      show overB t.fEnds w.fNow = false
      have hm := List.mem_of_find?_eq_some hf
      obtain ⟨a, b⟩ := List.mem_filter.1 hm
      have hr := (forest_wo hw.fo (fun t => overB t.fEnds w.fNow)).rec_ t a
      have hc : (sweepF w.fForest w.fNow).contains t.fId = false := by simpa using b
      unfold sweepF at hc
      rw [hc] at hr
      cases ho : overB t.fEnds w.fNow with
      | false => rfl
      | true => rw [ho] at hr; cases hr
  · rw [f4] at hl
    obtain ⟨a, b⟩ := List.mem_filter.1 hl
    have b : decide (l.fEnds ≤ w.fNow) = false := by simpa using b
    have := of_decide_eq_false b
    omega
def pickV (w : GWorld) (x : Nat) : Int := match w.fForest.fTokens[x % w.fForest.fTokens.length]? with | some t => t.fId | none => 0
def lvTok (w : GWorld) (x : Nat) : GToken := ⟨w.fNext, if x % 3 = 0 then 0 else pickV w x, [], w.fNow, if x % 5 = 0 then 0 else w.fNow + 1 + ((x % 40 : Nat) : Int), 0, 0⟩
def lvRole (x : Nat) : GRole := ⟨[100, 98], [117], 1 + ((x % 20 : Nat) : Int), 60⟩
def lvStep (w : GWorld) (x : Nat) : GWorld :=
  if x % 8 = 0 then (if mkC w.fForest (lvTok w x) = 0 then { w with fForest := mkF w.fForest (lvTok w x), fNext := w.fNext + 1 } else w)
  else if x % 8 ≤ 3 then guW w (pickV w x) (lvRole x) 7 [100, 98, 47, 97]
  else if x % 8 = 4 then grantW w (pickV w x) [107, 118, 47, 98] (1 + ((x % 20 : Nat) : Int)) 30
  else if x % 8 = 5 then (match w.fBook.fLeases[x % w.fBook.fLeases.length]? with | some l => cutW w l.fId | none => w)
  else if x % 8 = 6 then ptW w (w.fNow + ((x % 7 : Nat) : Int))
  else ctW w (pickV w x)
def world0 : GWorld := ⟨0, 1, 0, ⟨[]⟩, ⟨[]⟩, ⟨[], 0, 0⟩, ⟨[]⟩, []⟩
def lvW (code : List UInt8) : Nat → GWorld
  | 0 => world0
  | i + 1 => lvStep (lvW code i) (atV code i).toNat
structure LvOk (w : GWorld) (i : Nat) : Prop where
  lived : Lived w
  made : w.fFar.fMade ≤ i
  next : w.fNext ≤ i + 1
  now : w.fNow ≤ 6 * i
theorem cut_flds (w : GWorld) (id : Int) : (cutW w id).fNow = w.fNow ∧ (cutW w id).fNext = w.fNext := by
  unfold cutW
  split
  · obtain ⟨a, b, -⟩ := letGo_flds { w with fBook := dropL w.fBook id } [cutL w id]; exact ⟨a, b⟩
  · exact ⟨rfl, rfl⟩
theorem ct_flds (w : GWorld) (id : Int) : (ctW w id).fNow = w.fNow ∧ (ctW w id).fNext = w.fNext := by
  unfold ctW
  split
  · obtain ⟨a, b, -⟩ := letGo_flds (ctX w (goneT w.fForest id)) (goneL w.fBook (goneT w.fForest id)); exact ⟨a, b⟩
  · exact ⟨rfl, rfl⟩
theorem letGo_made (w : GWorld) (ls : List GLease) : (letGo w ls).fFar.fMade = w.fFar.fMade := by
  have hA : (letAll w ls).fFar = w.fFar := by rw [letAll_same w ls]
  have e1 : (letGo w ls).fFar = (rq (letAll w ls).fNow (letAll w ls).fQueue.fJobs (letAll w ls).fFar).far := rfl
  rw [e1, (rq_made _ _ _).1, hA]
theorem cut_made (w : GWorld) (id : Int) : (cutW w id).fFar.fMade = w.fFar.fMade := by
  unfold cutW; split
  · exact letGo_made _ _
  · rfl
theorem ct_made (w : GWorld) (id : Int) : (ctW w id).fFar.fMade = w.fFar.fMade := by
  unfold ctW; split
  · exact letGo_made _ _
  · rfl
theorem pt_made (w : GWorld) (now : Int) : (ptW w now).fFar.fMade = w.fFar.fMade := by
  unfold ptW; split
  · exact letGo_made _ _
  · rfl
theorem lived_zero : Lived world0 := by
  refine ⟨by decide +kernel, by decide, fun s hs => ?_, fun l hl => by cases hl⟩
  rcases hs with ⟨u, hu, _⟩ | ⟨u, hu, _⟩ | ⟨u, hu, _⟩ <;> cases hu
theorem lv_step {w : GWorld} {i : Nat} (h : LvOk w i) (hi : i ≤ 60) (x : Nat) : LvOk (lvStep w x) (i + 1) := by
  obtain ⟨h1, h2, h3, h4⟩ := h
  unfold lvStep
  split
  · split
    · rename_i hc
      exact ⟨lived_mk h1 hc rfl (by omega), by dsimp only; omega, by dsimp only; omega, by dsimp only; omega⟩
    · exact ⟨h1, by omega, by omega, by omega⟩
  split
  · obtain ⟨a, b, c, d⟩ := lived_gu h1 (by omega) (pickV w x) (lvRole x) 7 [100, 98, 47, 97]
    exact ⟨a, by omega, by omega, by omega⟩
  split
  · refine ⟨lived_grant h1 _ _ _ _, ?_, ?_, ?_⟩
    all_goals (unfold grantW; split <;> first | omega | (dsimp only; omega))
  split
  · split
    · rename_i l _
      obtain ⟨a, b⟩ := cut_flds w l.fId
      have c := cut_made w l.fId
      exact ⟨lived_cut h1 _, by omega, by omega, by omega⟩
    · exact ⟨h1, by omega, by omega, by omega⟩
  split
  · have hm := pt_made w (w.fNow + ((x % 7 : Nat) : Int))
    refine ⟨lived_pt h1 _, by omega, ?_, ?_⟩
    · by_cases hb : ptB w (w.fNow + ((x % 7 : Nat) : Int)) = true
      · rw [(pt_flds hb).2.1]; omega
      · unfold ptW; rw [if_neg hb]; omega
    · by_cases hb : ptB w (w.fNow + ((x % 7 : Nat) : Int)) = true
      · rw [(pt_flds hb).1]; omega
      · unfold ptW; rw [if_neg hb]; omega
  · obtain ⟨a, b⟩ := ct_flds w (pickV w x)
    have c := ct_made w (pickV w x)
    exact ⟨lived_ct h1 _, by omega, by omega, by omega⟩
theorem lv_ok (code : List UInt8) : ∀ i, i ≤ 60 → LvOk (lvW code i) i
  | 0, _ => ⟨lived_zero, show (0 : Int) ≤ 0 by omega, show (1 : Int) ≤ 0 + 1 by omega, show (0 : Int) ≤ 6 * 0 by omega⟩
  | i + 1, h => lv_step (lv_ok code i (by omega)) (by omega) _
theorem rem_nat (x m : Nat) (h : 0 < m) : intBin .rem .i64 (x : Int) (m : Int) = some (.int .i64 ((x % m : Nat) : Int)) := by
  show (if ((m : Nat) : Int) = 0 then none else some (D.int .i64 (Int.tmod (x : Int) (m : Int)))) = _
  rw [if_neg (by omega)]; rfl
abbrev lvZ : O := .box [.d (.int .i64 0), .d (.int .i64 0), .d (.int .i64 0), .nil 1 7, .nil 0 6, .nil 0 2, .d (.int .i64 0), .d (.int .i64 0), .nil 0 3, .nil 0 2]
abbrev lvOs (W : GWorld) : List (Nat × O) := [(0, lvZ), (1, .box [.d (.int .i64 W.fNow), .d (.int .i64 W.fNext), .d (.int .i64 W.fLost), .sl 2, .sl 3, .sl 4, .d (.int .i64 W.fFar.fFail), .d (.int .i64 W.fFar.fMade), .sl 5, .sl 6]), (2, .arr 0 1 7 (rToken W.fForest.fTokens)), (3, .arr 0 0 6 (rLease W.fBook.fLeases)), (4, .arr 0 0 2 (rUser W.fFar.fUsers)), (5, .arr 0 0 3 (rJob W.fQueue.fJobs)), (6, .arr 0 0 2 (rOwned W.fOwned))]
end Go.Proofs.YtoomonfpedjgoaaGreatDoor.Ab
