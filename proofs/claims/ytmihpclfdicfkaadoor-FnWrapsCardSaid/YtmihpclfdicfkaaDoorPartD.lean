/-
  A part of a proof about the given program; what is proved is said where each theorem stands.
-/
import Derived.Test.YtmihpclfdicfkaaDoorFrameA
import Derived.Test.YtmihpclfdicfkaaDoorFrameB
import Derived.Test.YtmihpclfdicfkaaDoorFrameC
import Derived.Test.YtmihpclfdicfkaaDoorFrameD
import Derived.Test.YtmihpclfdicfkaaDoorFrameE
import Derived.Test.YtmihpclfdicfkaaDoorShelf
import Derived.Test.YtmihpclfdicfkaaDoorCodesA
import Derived.Test.YtmihpclfdicfkaaDoorCodesB
import Derived.Test.YtmihpclfdicfkaaDoorCodesC
import Derived.Test.YtmihpclfdicfkaaDoorPartA
import Derived.Test.YtmihpclfdicfkaaDoorPartB
import Derived.Test.YtmihpclfdicfkaaDoorPartC
namespace Go.Proofs
end Go.Proofs
set_option linter.unusedSimpArgs false
set_option linter.unusedVariables false
set_option maxRecDepth 100000
set_option maxHeartbeats 2000000
namespace Go.Proofs.YtmihpclfdicfkaaDoor.Ab
open Go.Proofs
variable {GG : GV}
theorem lPath_v (c : Cur) (hc : c.good) : Valid PP GG F_S_l01DrawPath [.box c.o] (.d (.str (lPath c).1)) [some (.box (lPath c).2.o)] := by
  refine v_S_l01DrawPath [.d (.str (lPath c).1)] rfl rfl ?_
  have hr : lPath c = lPathL ((lSeg c).1, (lPathN (lSeg c).2).2) (lPathN (lSeg c).2).1.toNat := rfl
  have c1 := lSeg_v (GG := GG) c hc
  have g1 := lSeg_good hc
  have l1 := lSeg_len c
  generalize lSeg c = s at *
  have hN : lPathN s.2 = if (lOnce (lBelow s.2 4).2 20).1 = true then (7 + (lBelow (lOnce (lBelow s.2 4).2 20).2 2).1, (lBelow (lOnce (lBelow s.2 4).2 20).2 2).2) else ((lBelow s.2 4).1, (lOnce (lBelow s.2 4).2 20).2) := rfl
  have rN := lPathN_rng s.2
  have gN := lPathN_good g1
  have c2 := lBelow_v (GG := GG) s.2 4 g1
  have g2 := lBelow_good g1 4
  have r2 := lBelow_rng s.2 (n := 4) (by omega)
  generalize lBelow s.2 4 = n at *
  have c3 := lOnce_v (GG := GG) n.2 20 g2
  have g3 := lOnce_good g2 20
  generalize lOnce n.2 20 = o at *
  obtain ⟨o1, o2⟩ := o
  dsimp only at g3 hN
  have c4 := lBelow_v (GG := GG) o2 2 g3
  have r4 := lBelow_rng o2 (n := 2) (by omega)
  generalize lBelow o2 2 = m at *
  rw [hr]
  clear hr
  generalize lPathN s.2 = N at *
  obtain ⟨N1, N2⟩ := N
  dsimp only at rN gN ⊢
  refine W_seq (?_)
  apply W_regS
  · intro K hK
    simp
    repeat' (first | with_reducible exact hK | (with_reducible refine goL_split (fun _ => ?_) (fun _ => ?_) <;> simp) | with_reducible refine And.intro ?_ ?_ | with_reducible exact okay_rfl rfl | with_reducible assumption | omega)
  refine W_seq (?_)
  apply W_regS
  · intro K hK
    simp
    repeat' (first | with_reducible exact hK | (with_reducible refine callQ (c1) ?_; simp) | (with_reducible refine goL_split (fun _ => ?_) (fun _ => ?_) <;> simp) | with_reducible refine And.intro ?_ ?_ | with_reducible exact okay_rfl rfl | with_reducible assumption | omega)
  refine W_seq (?_)
  apply W_regS
  · intro K hK
    simp
    repeat' (first | with_reducible exact hK | (with_reducible refine callQ (c2) ?_; simp) | (with_reducible refine goL_split (fun _ => ?_) (fun _ => ?_) <;> simp) | with_reducible refine And.intro ?_ ?_ | with_reducible exact okay_rfl rfl | with_reducible assumption | omega)
  refine W_cut [0, 3, 4] (fun st' => st' = ⟨[], [(0, .ptr 0 0), (3, .d (.str s.1)), (4, .d (.int .i64 N1))], [(0, .box [.d (.slc 1 (bytesD N2.b)), .d (.int .i64 N2.i), .d (.int .i64 N2.h)])], 1⟩) ?_ ?_
  · cases o1
    · rw [if_neg (by simp)] at hN
      injection hN with e1 e2
      subst e1 e2
      clear c4
      repeat' (first | refine W_seq ?_ | refine W_skip ?_ | refine W_block ?_ | refine W_exit ?_ | refine pick_pos rfl ?_ | refine pick_neg rfl ?_ | ((first | refine W_regP fun K hK => ?_ | refine W_regPD fun K hK => ?_ | refine W_ret ?_ | with_reducible refine callQ (c3) ?_); simp [Fin]) | (with_reducible refine hK _ ?_; clear hK K) | (with_reducible refine goL_split (fun h => ?_) (fun h => ?_) <;> first | (exfalso; simp at h; first | done | omega | contradiction) | ((try simp at h); simp)) | with_reducible refine And.intro ?_ ?_ | with_reducible exact okay_rfl rfl | with_reducible assumption | (refine W_cond rfl (fun h => ?_) (fun h => ?_) <;> first | (exfalso; simp at h; first | done | omega | contradiction) | (exfalso; simp_all; done) | (try simp at h)) | omega)
      simp [gc, closeN, liveA, gcV, gcO, renA, renAs, renO, namesAs, namesA, namesO, posn]
    · rw [if_pos rfl] at hN
      injection hN with e1 e2
      subst e1 e2
      have hw : IntKind.i64.wrap (7 + m.1) = 7 + m.1 := wrap_id (by omega) (by omega)
      repeat' (first | refine W_seq ?_ | refine W_skip ?_ | refine W_block ?_ | refine W_exit ?_ | refine pick_pos rfl ?_ | refine pick_neg rfl ?_ | ((first | refine W_regP fun K hK => ?_ | refine W_regPD fun K hK => ?_ | refine W_ret ?_ | with_reducible refine callQ (c3) ?_ | with_reducible refine callQ (c4) ?_); simp [Fin, hw]) | (with_reducible refine hK _ ?_; clear hK K) | (with_reducible refine goL_split (fun h => ?_) (fun h => ?_) <;> first | (exfalso; simp at h; first | done | omega | contradiction) | ((try simp at h); simp [hw])) | with_reducible refine And.intro ?_ ?_ | with_reducible exact okay_rfl rfl | with_reducible assumption | (refine W_cond rfl (fun h => ?_) (fun h => ?_) <;> first | (exfalso; simp at h; first | done | omega | contradiction) | (exfalso; simp_all; done) | (try simp at h)) | omega)
      simp [gc, closeN, liveA, gcV, gcO, renA, renAs, renO, namesAs, namesA, namesO, posn]
  rintro st rfl
  clear hN c1 c2 c3 c4
  repeat' (first | refine W_seq ?_ | refine W_skip ?_ | refine W_block ?_ | refine W_exit ?_ | refine pick_pos rfl ?_ | refine pick_neg rfl ?_ | ((first | refine W_regP fun K hK => ?_ | refine W_regPD fun K hK => ?_ | refine W_ret ?_); simp [Fin]) | (with_reducible refine hK _ ?_; clear hK K) | (with_reducible refine goL_split (fun h => ?_) (fun h => ?_) <;> first | (exfalso; simp at h; first | done | omega | contradiction) | ((try simp at h); simp)) | with_reducible refine And.intro ?_ ?_ | with_reducible exact okay_rfl rfl | with_reducible assumption | (refine W_cond rfl (fun h => ?_) (fun h => ?_) <;> first | (exfalso; simp at h; first | done | omega | contradiction) | (exfalso; simp_all; done) | (try simp at h)) | omega)
  refine W_loop (fun k st => ∃ i : Nat, k = N1.toNat - i ∧ i ≤ N1.toNat ∧
    st = ⟨[], [(0, .ptr 0 0), (3, .d (.str (lPathL (s.1, N2) i).1)), (4, .d (.int .i64 N1)), (5, .d (.int .i64 i))], [(0, .box [.d (.slc 1 (bytesD (lPathL (s.1, N2) i).2.b)), .d (.int .i64 (lPathL (s.1, N2) i).2.i), .d (.int .i64 (lPathL (s.1, N2) i).2.h)])], 1⟩) _ ⟨0, rfl, by omega, ?_⟩ ?_
  · simp [gc, closeN, liveA, gcV, gcO, renA, renAs, renO, namesAs, namesA, namesO, posn, lPathL]
  rintro k st ⟨i, rfl, hi, rfl⟩
  by_cases hlt : (i : Int) < N1
  rotate_left
  · have hie : N1.toNat = i := by omega
    rw [hie]
    generalize lPathL (s.1, N2) i = L at *
    repeat' (first | refine W_seq ?_ | refine W_skip ?_ | refine W_block ?_ | refine W_exit ?_ | refine pick_pos rfl ?_ | refine pick_neg rfl ?_ | ((first | refine W_regP fun K hK => ?_ | refine W_regPD fun K hK => ?_ | refine W_ret ?_); simp [Fin, hlt]) | (with_reducible refine hK _ ?_; clear hK K) | (with_reducible refine goL_split (fun h => ?_) (fun h => ?_) <;> first | (exfalso; simp at h; first | done | omega | contradiction) | ((try simp at h); simp [hlt])) | with_reducible refine And.intro ?_ ?_ | with_reducible exact okay_rfl rfl | with_reducible assumption | (refine W_cond rfl (fun h => ?_) (fun h => ?_) <;> first | (exfalso; simp at h; first | done | omega | contradiction) | (exfalso; simp_all; done) | (try simp at h)) | omega)
  have hs : lPathL (s.1, N2) (i + 1) = ((lPathL (s.1, N2) i).1 ++ [47] ++ (lSeg (lPathL (s.1, N2) i).2).1, (lSeg (lPathL (s.1, N2) i).2).2) := rfl
  have gL := lPathL_good (s := (s.1, N2)) gN i
  have hL := lPathL_len (s.1, N2) i
  generalize lPathL (s.1, N2) i = L at *
  have c5 := lSeg_v (GG := GG) L.2 gL
  have l5 := lSeg_len L.2
  generalize lSeg L.2 = S at *
  dsimp only at hL
  repeat' (first | refine W_seq ?_ | refine W_skip ?_ | refine W_block ?_ | refine W_exit ?_ | refine pick_pos rfl ?_ | refine pick_neg rfl ?_ | ((first | refine W_regP fun K hK => ?_ | refine W_regPD fun K hK => ?_ | refine W_ret ?_ | with_reducible refine callQ (c5) ?_); simp [Fin, hlt, maxStr]) | (with_reducible refine hK _ ?_; clear hK K) | (with_reducible refine goL_split (fun h => ?_) (fun h => ?_) <;> first | (exfalso; simp at h; first | done | omega | contradiction) | ((try simp at h); simp [hlt, maxStr])) | with_reducible refine And.intro ?_ ?_ | with_reducible exact okay_rfl rfl | with_reducible assumption | (refine W_cond rfl (fun h => ?_) (fun h => ?_) <;> first | (exfalso; simp at h; first | done | omega | contradiction) | (exfalso; simp_all; done) | (try simp at h)) | omega)
  refine ⟨N1.toNat - (i + 1), by omega, i + 1, rfl, by omega, ?_⟩
  rw [hs]
  simp [gc, closeN, liveA, gcV, gcO, renA, renAs, renO, namesAs, namesA, namesO, posn]
  exact wrap_id (by omega) (by omega)
theorem big_ok (code : List UInt8) (h : code.length ≤ maxLen) : Valid PP GG F_L_big [.d (.slc 1 (bytesD code))] (.d (.bool (decide (1048576 < code.length)))) [none] := by
  refine v_L_big [.d (.bool (decide (1048576 < code.length)))] rfl rfl ?_
  have hbl := bytesD_len code
  have hd : decide ((1048576 : Int) < (code.length : Nat)) = decide (1048576 < code.length) := decide_eq_decide.2 (by omega)
  repeat' (first | refine W_seq ?_ | refine W_skip ?_ | refine W_block ?_ | refine W_exit ?_ | refine pick_pos rfl ?_ | refine pick_neg rfl ?_ | ((first | refine W_regP fun K hK => ?_ | refine W_regPD fun K hK => ?_ | refine W_ret ?_); simp [Fin, hbl, hd]) | (with_reducible refine hK _ ?_; clear hK K) | (with_reducible refine goL_split (fun h => ?_) (fun h => ?_) <;> first | (exfalso; simp at h; first | done | omega | contradiction) | ((try simp at h); simp [hbl, hd])) | with_reducible refine And.intro ?_ ?_ | with_reducible exact okay_rfl rfl | with_reducible assumption | (refine W_cond rfl (fun h => ?_) (fun h => ?_) <;> first | (exfalso; simp at h; first | done | omega | contradiction) | (exfalso; simp_all; done) | (try simp at h)) | omega)
def atV (code : List UInt8) (i : Nat) : Int := if i < code.length then ((code.getD i 0).toNat : Nat) else ((i * 13 + code.length * 5) % 256 : Nat)
theorem atV_rng (code : List UInt8) (i : Nat) : 0 ≤ atV code i ∧ atV code i ≤ 255 := by
  unfold atV
  split
  · have := (code.getD i 0).toNat_lt; omega
  · omega
theorem at_ok (code : List UInt8) (i : Nat) (h : code.length ≤ 1048577) (hi : i ≤ 1000) : Valid PP GG F_L_at [.d (.slc 1 (bytesD code)), .d (.int .i64 i)] (.d (.int .i64 (atV code i))) [none, none] := by
  refine v_L_at [.d (.int .i64 (atV code i))] rfl rfl ?_
  have hbl := bytesD_len code
  by_cases hlt : i < code.length
  · have hg := List.getElem?_eq_getElem hlt
    have hv : atV code i = ((code[i].toNat : Nat) : Int) := by unfold atV; rw [if_pos hlt, List.getD_eq_getElem?_getD, hg]; rfl
    rw [hv]
    generalize code[i] = x at hg
    have hx := x.toNat_lt
    have hw : IntKind.i64.wrap (x.toNat : Nat) = (x.toNat : Nat) := wrap_id (by omega) (by omega)
    repeat' (first | refine W_seq ?_ | refine W_skip ?_ | refine W_block ?_ | refine W_exit ?_ | refine pick_pos rfl ?_ | refine pick_neg rfl ?_ | ((first | refine W_regP fun K hK => ?_ | refine W_regPD fun K hK => ?_ | refine W_ret ?_); simp [Fin, hbl, hg, hw]) | (with_reducible refine hK _ ?_; clear hK K) | (with_reducible refine goL_split (fun h => ?_) (fun h => ?_) <;> first | (exfalso; simp at h; first | done | omega | contradiction) | ((try simp at h); simp [hbl, hg, hw])) | with_reducible refine And.intro ?_ ?_ | with_reducible exact okay_rfl rfl | with_reducible assumption | (refine W_cond rfl (fun h => ?_) (fun h => ?_) <;> first | (exfalso; simp at h; first | done | omega | contradiction) | (exfalso; simp_all; done) | (try simp at h)) | omega)
  · have hv : atV code i = ((i * 13 + code.length * 5) % 256 : Nat) := by unfold atV; rw [if_neg hlt]
    rw [hv]
    have hw1 : IntKind.i64.wrap ((i : Int) * 13) = (i : Int) * 13 := wrap_id (by omega) (by omega)
    have hw2 : IntKind.i64.wrap ((code.length : Int) * 5) = (code.length : Int) * 5 := wrap_id (by omega) (by omega)
    have hw3 : IntKind.i64.wrap ((i : Int) * 13 + (code.length : Int) * 5) = (i : Int) * 13 + (code.length : Int) * 5 := wrap_id (by omega) (by omega)
    have hm : Int.tmod ((i : Int) * 13 + (code.length : Int) * 5) 256 = (((i * 13 + code.length * 5) % 256 : Nat) : Int) := by
      rw [show (i : Int) * 13 + (code.length : Int) * 5 = ((i * 13 + code.length * 5 : Nat) : Int) by omega]
      rfl
    repeat' (first | refine W_seq ?_ | refine W_skip ?_ | refine W_block ?_ | refine W_exit ?_ | refine pick_pos rfl ?_ | refine pick_neg rfl ?_ | ((first | refine W_regP fun K hK => ?_ | refine W_regPD fun K hK => ?_ | refine W_ret ?_); simp [Fin, hbl, hw1, hw2, hw3, hm]) | (with_reducible refine hK _ ?_; clear hK K) | (with_reducible refine goL_split (fun h => ?_) (fun h => ?_) <;> first | (exfalso; simp at h; first | done | omega | contradiction) | ((try simp at h); simp [hbl, hw1, hw2, hw3, hm])) | with_reducible refine And.intro ?_ ?_ | with_reducible exact okay_rfl rfl | with_reducible assumption | (refine W_cond rfl (fun h => ?_) (fun h => ?_) <;> first | (exfalso; simp at h; first | done | omega | contradiction) | (exfalso; simp_all; done) | (try simp at h)) | omega)
structure Kx (B : Nat) (X : Nat → Prop) (w w' : World) : Prop where
  os : w'.os = w.os
  output : w'.output = w.output
  size : w.heap.size ≤ w'.heap.size
  block : ∀ k, k < B → ¬ X k → w'.heap[k]? = w.heap[k]?
theorem Kx_refl (B : Nat) (X : Nat → Prop) (w : World) : Kx B X w w := ⟨rfl, rfl, Nat.le_refl _, fun _ _ _ => rfl⟩
theorem Kx_trans {B : Nat} {X : Nat → Prop} {w w' w'' : World} (h : Kx B X w w') (k : Kx B X w' w'') : Kx B X w w'' :=
  ⟨k.os.trans h.os, k.output.trans h.output, Nat.le_trans h.size k.size, fun i hi hx => (k.block i hi hx).trans (h.block i hi hx)⟩
theorem Kx_mono {B : Nat} {X Y : Nat → Prop} {w w' : World} (h : Kx B X w w') (hXY : ∀ k, X k → Y k) : Kx B Y w w' :=
  ⟨h.os, h.output, h.size, fun i hi hx => h.block i hi fun hX => hx (hXY i hX)⟩
theorem Kx_alloc {B : Nat} (X : Nat → Prop) (w : World) (hB : B ≤ w.heap.size) (o : Obj) : Kx B X w (w.alloc o) :=
  ⟨rfl, rfl, by simp, fun i hi _ => heap_alloc_old w o (Nat.lt_of_lt_of_le hi hB)⟩
theorem Kx_cell {B : Nat} {X : Nat → Prop} {w w' : World} (h : Kx B X w w') {b o : Nat} (hb : b < B) (hx : ¬ X b) : w'.cell? ⟨b, o, none⟩ = w.cell? ⟨b, o, none⟩ := by
  unfold World.cell?; rw [h.block b hb hx]
structure WV where
  id : Int
  ends : Int
  kind : ByteArray
  nonce : Int
  dat : Option Addr
  dln : Nat
  dcp : Nat
  tag : Int
def WVat (w : World) (b o : Nat) (x : WV) : Prop :=
  w.cell? ⟨b, o, none⟩ = some (.int .i64 x.id) ∧ w.cell? ⟨b, o + 1, none⟩ = some (.int .i64 x.ends) ∧ w.cell? ⟨b, o + 2, none⟩ = some (.string x.kind) ∧
  w.cell? ⟨b, o + 3, none⟩ = some (.int .i64 x.nonce) ∧ w.cell? ⟨b, o + 4, none⟩ = some (.slice x.dat x.dln x.dcp) ∧ w.cell? ⟨b, o + 5, none⟩ = some (.int .i64 x.tag)
theorem WVat_kept {w w' : World} {b o : Nat} {x : WV} (h : WVat w b o x) (hk : ∀ o, w'.cell? ⟨b, o, none⟩ = w.cell? ⟨b, o, none⟩) : WVat w' b o x := by
  unfold WVat at h ⊢
  simp only [hk]
  exact h
def IdsAt (B Bi : Nat) (l : List Int) (w : World) : Prop :=
  ∃ v, w.heap[Bi]? = some (.cells #[v] 29 (0, 0)) ∧ w.ownsRow B 3 1 v l.length (l.map (Value.int .i64))
theorem IdsAt_kept {B Bi : Nat} {l : List Int} {w w' : World} (h : IdsAt B Bi l w) (hk : ∀ k, k = Bi ∨ B ≤ k → k < w.heap.size → w'.heap[k]? = w.heap[k]?) : IdsAt B Bi l w' := by
  obtain ⟨v, h1, h2⟩ := h
  refine ⟨v, (hk Bi (.inl rfl) (Array.getElem?_eq_some_iff.1 h1).1).trans h1, h2.1, ?_⟩
  rcases h2.2 with hn | ⟨g, cap, cur, rfl, hg, hgg, rest⟩
  · exact .inl hn
  · exact .inr ⟨g, cap, cur, rfl, hg, (hk g (.inr hg) (Array.getElem?_eq_some_iff.1 hgg).1).trans hgg, rest⟩
def Stands (p : Prop) (w w' : World) : Prop := p → ∀ k, k < w.heap.size → w'.heap[k]? = w.heap[k]?
theorem int_info : (PP.info? 3).map (fun i => (i.zero, i.size, i.bytes)) = some (some (.int .i64 0), 1, 8) := by kernel_rfl
theorem setCell_heap {w : World} {a : Addr} {u : Value} {k : Nat} (h : k ≠ a.block) : (w.setCell a u).heap[k]? = w.heap[k]? := by
  have h' : ¬ a.block = k := fun e => h e.symm
  simp [World.setCell, Array.getElem?_modify, h']
set_option maxHeartbeats 4000000 in
set_option maxRecDepth 1000000 in
open Go.RowKit in
theorem clo_walk (B Bn Bi : Nat) (now : Int) (x : WV) (l : List Int) (w : World) (hBn : Bn < B) (hBi : Bi < B) (hne : Bn ≠ Bi) (hB : B ≤ w.heap.size) (hn : w.cell? ⟨Bn, 0, none⟩ = some (.int .i64 now))
    (hi : IdsAt B Bi l w) (hl : l.length ≤ 1048576) :
    Calls PP 63 #[.agg #[.int .i64 x.id, .int .i64 x.ends, .string x.kind, .int .i64 x.nonce, .slice x.dat x.dln x.dcp, .int .i64 x.tag], .pointer (some ⟨Bn, 0, none⟩), .pointer (some ⟨Bi, 0, none⟩)] w fun e w' =>
      e = .returned (.bool (decide (x.ends ≤ now))) ∧ IdsAt B Bi (if x.ends ≤ now then l ++ [x.id] else l) w' ∧ Kx B (· = Bi) w w' ∧ Stands (now < x.ends) w w' := by
  obtain ⟨v, hv, hown⟩ := hi
  obtain ⟨i0, hi, hz0, hz1, hz2⟩ := info_parts int_info
  have hvc : w.cell? ⟨Bi, 0, none⟩ = some v := by simp [World.cell?, hv]
  obtain ⟨O, hO⟩ : ∃ O : Obj, O = .cells #[.int .i64 x.id, .int .i64 x.ends, .string x.kind, .int .i64 x.nonce, .slice x.dat x.dln x.dcp, .int .i64 x.tag] 61 := ⟨_, rfl⟩
  have cn : (w.alloc O).cell? ⟨Bn, 0, none⟩ = some (.int .i64 now) := (World.cell?_alloc_past _ _ _ (by omega)).trans hn
  have ci : (w.alloc O).cell? ⟨Bi, 0, none⟩ = some v := (World.cell?_alloc_past _ _ _ (by omega)).trans hvc
  rw [hO] at cn ci
  unfold PP
  go_enter Tryd.func63, Tryd.ntmps63
  by_cases he : x.ends ≤ now
  · rw [if_pos he]
    go_wp2_with (at_builtin; refine wpList_append_own _ rfl _ _ 29 rfl B 3 i0 (.int .i64 0) 1 8 Tryd.underlying29 hi hz0 hz1 hz2 rfl (by decide) _ _ _ rfl ((hown.alloc _).alloc _) ⟨w.heap.size + 1, 0, none⟩ 1 1 [.int .i64 x.id] rfl rfl ?c1 ?c2 ?c3 ?c4 ?c5 ?_)
    case c1 =>
      intro j u hj
      match j, hj with
      | 0, hj => simp at hj; subst hj; simp [Addr.add]
    case c2 => intro u hu; simp at hu; subst hu; rfl
    case c3 => unfold maxLen; omega
    case c4 => omega
    case c5 => simp; omega
    intro v' w1 hown' hgrow _
    obtain ⟨g1, cap1, rfl⟩ : ∃ g cap, v' = .slice (some ⟨g, 0, none⟩) (l.length + 1) cap := by
      rcases hown'.2 with ⟨_, h⟩ | ⟨g, cap, _, h, _⟩
      · omega
      · exact ⟨g, cap, h⟩
    have hlt := hown.lt
    have hbi : w1.heap[Bi]? = some (.cells #[v] 29 (0, 0)) := by
      rw [hgrow.block Bi (by simp; omega) (fun h => by have := (hlt Bi h.symm).1; omega), heap_alloc_old _ _ (by simp; omega), heap_alloc_old _ _ (by omega)]
      exact hv
    have hpar : w1.heap[w.heap.size]? = some (.cells #[.int .i64 x.id, .int .i64 x.ends, .string x.kind, .int .i64 x.nonce, .slice x.dat x.dln x.dcp, .int .i64 x.tag] 61 (0, 0)) := by
      rw [hgrow.block w.heap.size (by simp; omega) (fun h => by have := (hlt _ h.symm).2; omega), heap_alloc_old _ _ (by simp)]
      show (w.heap.push _)[w.heap.size]? = _
      rw [Array.getElem?_push_size]
    have cn1 : (w1.setCell ⟨Bi, 0, none⟩ (.slice (some ⟨g1, 0, none⟩) (l.length + 1) cap1)).cell? ⟨Bn, 0, none⟩ = some (.int .i64 now) := by
      rw [World.cell?_setCell_other _ _ _ _ (by simp only [ne_eq, Addr.mk.injEq, not_and]; omega)]
      exact hgrow.cell ((World.cell?_alloc_past _ _ _ (by simp; omega)).trans cn) (fun h => by have := (hlt Bn h.symm).1; omega)
    have ce1 : (w1.setCell ⟨Bi, 0, none⟩ (.slice (some ⟨g1, 0, none⟩) (l.length + 1) cap1)).cell? ⟨w.heap.size, 1, none⟩ = some (.int .i64 x.ends) := by
      rw [World.cell?_setCell_other _ _ _ _ (by simp only [ne_eq, Addr.mk.injEq, not_and]; omega)]
      simp [World.cell?, hpar]
    have ci1 : w1.cell? ⟨Bi, 0, none⟩ = some v := by simp [World.cell?, hbi]
    have cf1 : w1.frozen? ⟨Bi, 0, none⟩ = false := by simp [World.frozen?, hbi]
    go_wp2
    go_ret
    refine ⟨by simp [he], ⟨.slice (some ⟨g1, 0, none⟩) (l.length + 1) cap1, ?_, ?_⟩, ?_, fun h => absurd h (by omega)⟩
    · simp [World.setCell, Array.getElem?_modify, hbi]
    · have := ownsRow_setCell_below (a := ⟨Bi, 0, none⟩) hown' hBi (.slice (some ⟨g1, 0, none⟩) (l.length + 1) cap1)
      simpa using this
    · refine ⟨hgrow.os, hgrow.output, ?_, fun k hk hkb => ?_⟩
      · have h1 : (w1.setCell ⟨Bi, 0, none⟩ (.slice (some ⟨g1, 0, none⟩) (l.length + 1) cap1)).heap.size = w1.heap.size := by simp [World.setCell]
        rw [h1]
        have := hgrow.size
        simp at this
        omega
      · rw [setCell_heap (fun h => hkb h), hgrow.block k (by simp; omega) (fun h => by have := (hlt k h.symm).1; omega), heap_alloc_old _ _ (by simp; omega), heap_alloc_old _ _ (by omega)]
  · rw [if_neg he]
    go_wp2
    go_ret
    refine ⟨by simp [he], IdsAt_kept ⟨v, hv, hown⟩ fun k hk hks => heap_alloc_old _ _ hks, Kx_alloc _ _ hB _, fun _ k hk => heap_alloc_old _ _ hk⟩
theorem take_snoc {α : Type} {l : List α} {k : Nat} {x : α} (h : l[k]? = some x) : l.take (k + 1) = l.take k ++ [x] := by
  rw [List.take_add_one, h]; rfl
def Lasts (now : Int) (l : List WV) : Prop := ∀ y, y ∈ l → ¬ y.ends ≤ now
def IdxR (B Bi : Nat) (now : Int) (rows : List WV) (l : List Int) (w' : World) (r : Int) : Prop :=
  (∃ (i : Nat) (x : WV), r = i ∧ rows[i]? = some x ∧ x.ends ≤ now ∧ Lasts now (rows.take i) ∧ IdsAt B Bi (l ++ [x.id]) w') ∨ (r = -1 ∧ Lasts now rows ∧ IdsAt B Bi l w')
theorem Lasts_snoc {now : Int} {rows : List WV} {k : Nat} {x : WV} (h : Lasts now (rows.take k)) (hx : rows[k]? = some x) (he : ¬ x.ends ≤ now) : Lasts now (rows.take (k + 1)) := by
  intro y hy
  rw [take_snoc hx] at hy
  rcases List.mem_append.1 hy with hy | hy
  · exact h y hy
  · simp at hy; subst hy; exact he
set_option maxHeartbeats 4000000 in
set_option maxRecDepth 1000000 in
open Go.RowKit in
theorem idx_walk (B Bn Bi : Nat) (now : Int) (rows : List WV) (l : List Int) (b off cap : Nat) (w : World) (hBn : Bn < B) (hBi : Bi < B) (hne : Bn ≠ Bi) (hb : b < B) (hbi : b ≠ Bi) (hB : B ≤ w.heap.size) (hn : w.cell? ⟨Bn, 0, none⟩ = some (.int .i64 now))
    (hc : ∀ (k : Nat) x, rows[k]? = some x → WVat w b (off + k * 6) x) (hi : IdsAt B Bi l w) (hl : l.length ≤ 1048576) (hr : rows.length ≤ 1048576) :
    Calls PP 74 #[.slice (some ⟨b, off, none⟩) rows.length cap, .func (.func 63) #[] #[.pointer (some ⟨Bn, 0, none⟩), .pointer (some ⟨Bi, 0, none⟩)]] w fun e w' =>
      ∃ r : Int, e = .returned (.int .i64 r) ∧ Kx B (· = Bi) w w' ∧ IdxR B Bi now rows l w' r := by
  unfold PP
  go_enter Tryd.func74, Tryd.ntmps74
  go_wp2
  go_loopw [8] (fun s wr => ∃ k : Nat, k ≤ rows.length ∧ s = .int .i64 k ∧ IdsAt B Bi l wr ∧ Kx B (· = Bi) w wr ∧ Lasts now (rows.take k)) (fun s _ => rows.length - (intOf s).toNat)
  case atStart => exact ⟨0, Nat.zero_le _, rfl, hi, Kx_refl _ _ _, fun y hy => by simp at hy⟩
  case round =>
    obtain ⟨k, hk, rfl, hI, hK, hall⟩ := hrel
    by_cases hlt : k < rows.length
    · have hx := List.getElem?_eq_getElem hlt
      generalize rows[k] = x at hx
      have hw := hc k x hx
      obtain ⟨c0, c1, c2, c3, c4, c5⟩ := WVat_kept hw fun o => Kx_cell hK (o := o) hb hbi
      have cn := (Kx_cell hK (o := 0) hBn hne).trans hn
      have hBr : B ≤ wr.heap.size := Nat.le_trans hB hK.size
      have hcl := clo_walk B Bn Bi now x l wr hBn hBi hne hBr cn hI hl
      by_cases he : x.ends ≤ now
      · rw [if_pos he, decide_eq_true he] at hcl
        go_wp2_with (go_at_call 63; refine hcl.mono ?_)
        rintro e w2 ⟨rfl, hI2, hK2, _⟩
        go_wp2
        go_ret
        first | exact ⟨_, rfl, Kx_trans hK hK2, .inl ⟨k, x, rfl, hx, he, hall, hI2⟩⟩ | exact ⟨Kx_trans hK hK2, .inl ⟨k, x, rfl, hx, he, hall, hI2⟩⟩
      · rw [if_neg he, decide_eq_false he] at hcl
        go_wp2_with (go_at_call 63; refine hcl.mono ?_)
        rintro e w2 rfl hI2 hK2 _
        go_wp2
        go_roundw
        case rel =>
          exact ⟨k + 1, by omega, by simp, hI2, Kx_trans hK hK2, Lasts_snoc hall hx (by omega)⟩
        case measure => simp [intOf]; omega
    · go_wp2
      go_ret
      have hkl : k = rows.length := by omega
      subst hkl
      rw [List.take_length] at hall
      first | exact ⟨_, rfl, hK, .inr ⟨rfl, hall, hI⟩⟩ | exact ⟨hK, .inr ⟨rfl, hall, hI⟩⟩
structure RowsK (b lo hi : Nat) (w w' : World) : Prop where
  out : ∀ y, ¬ (lo ≤ y ∧ y < hi) → w'.cell? (at_ b y) = w.cell? (at_ b y)
  frz : ∀ y, w'.frz? (at_ b y) = w.frz? (at_ b y)
  some : ∀ y, (w.cell? (at_ b y)).isSome = true → (w'.cell? (at_ b y)).isSome = true
theorem RowsK_heap {b lo hi : Nat} {w w' : World} (h : w'.heap[b]? = w.heap[b]?) : RowsK b lo hi w w' := by
  have hc : ∀ y, w'.cell? (at_ b y) = w.cell? (at_ b y) := fun y => by unfold World.cell?; simp only [at_, h]
  exact ⟨fun y _ => hc y, fun y => by unfold World.frz?; simp only [at_, h], fun y hy => by rw [hc]; exact hy⟩
theorem RowsK_trans {b lo hi : Nat} {w w' w'' : World} (h : RowsK b lo hi w w') (k : RowsK b lo hi w' w'') : RowsK b lo hi w w'' :=
  ⟨fun y hy => (k.out y hy).trans (h.out y hy), fun y => (k.frz y).trans (h.frz y), fun y hy => k.some y (h.some y hy)⟩
def endedW (now : Int) (x : WV) : Bool := decide (x.ends ≤ now)
def keptW (now : Int) (l : List WV) : List WV := l.filter fun x => !endedW now x
def goneW (now : Int) (l : List WV) : List Int := (l.filter (endedW now)).map WV.id
theorem keptW_lasts {now : Int} {l : List WV} (h : Lasts now l) : keptW now l = l ∧ goneW now l = [] := by
  refine ⟨List.filter_eq_self.2 fun x hx => ?_, ?_⟩
  · simp [endedW, h x hx]
  · unfold goneW
    rw [List.filter_eq_nil_iff.2 (fun x hx => by simp [endedW, h x hx])]
    rfl
structure DfS (B Bi b off : Nat) (now : Int) (rows : List WV) (w : World) (i j : Nat) (wr : World) : Prop where
  cur : ∃ cur : List WV, cur.length = rows.length ∧ cur.take i = keptW now (rows.take j) ∧ cur.drop j = rows.drop j ∧ ∀ (k : Nat) x, cur[k]? = some x → WVat wr b (off + k * 6) x
  ids : IdsAt B Bi (goneW now (rows.take j)) wr
  kx : Kx B (fun k => k = Bi ∨ k = b) w wr
  rk : RowsK b off (off + rows.length * 6) w wr
  lt : i < j
  jn : j ≤ rows.length
theorem goneW_len (now : Int) (l : List WV) : (goneW now l).length ≤ l.length := by
  unfold goneW; rw [List.length_map]; exact List.length_filter_le _ _
theorem keptW_snoc {now : Int} {rows : List WV} {j : Nat} {x : WV} (hx : rows[j]? = some x) : keptW now (rows.take (j + 1)) = keptW now (rows.take j) ++ (if x.ends ≤ now then [] else [x]) ∧
    goneW now (rows.take (j + 1)) = goneW now (rows.take j) ++ (if x.ends ≤ now then [x.id] else []) := by
  unfold keptW goneW
  rw [take_snoc hx, List.filter_append, List.filter_append, List.map_append]
  by_cases h : x.ends ≤ now
  · rw [if_pos h, if_pos h]; simp [endedW, h]
  · rw [if_neg h, if_neg h]; simp [endedW, h]
theorem DfS_start {B Bi b off : Nat} {now : Int} {rows : List WV} {w w1 : World} {i0 : Nat} {x0 : WV} (hx0 : rows[i0]? = some x0) (he0 : x0.ends ≤ now) (hall : Lasts now (rows.take i0)) (hI : IdsAt B Bi [x0.id] w1) (hK : Kx B (· = Bi) w w1) (hb : b < B) (hbi : b ≠ Bi)
    (hc : ∀ (k : Nat) x, rows[k]? = some x → WVat w b (off + k * 6) x) : DfS B Bi b off now rows w i0 (i0 + 1) w1 := by
  obtain ⟨k1, k2⟩ := keptW_snoc (now := now) hx0
  obtain ⟨e1, e2⟩ := keptW_lasts hall
  rw [if_pos he0] at k1 k2
  rw [e1, List.append_nil] at k1
  rw [e2, List.nil_append] at k2
  exact ⟨⟨rows, rfl, k1.symm, rfl, fun k x hx => WVat_kept (hc k x hx) fun o => Kx_cell hK hb hbi⟩, by rw [k2]; exact hI, Kx_mono hK fun k h => .inl h, RowsK_heap (hK.block b hb hbi), Nat.lt_succ_self _, (List.getElem?_eq_some_iff.1 hx0).1⟩
theorem DfS_hit {B Bi b off : Nat} {now : Int} {rows : List WV} {w wr w2 : World} {i j : Nat} {x : WV} (h : DfS B Bi b off now rows w i j wr) (hx : rows[j]? = some x) (he : x.ends ≤ now) (hI : IdsAt B Bi (goneW now (rows.take j) ++ [x.id]) w2) (hK : Kx B (· = Bi) wr w2) (hb : b < B) (hbi : b ≠ Bi) :
    DfS B Bi b off now rows w i (j + 1) w2 := by
  obtain ⟨⟨cur, h1, h2, h3, h4⟩, h5, h6, h7, h8, h9⟩ := h
  obtain ⟨k1, k2⟩ := keptW_snoc (now := now) hx
  rw [if_pos he] at k1 k2
  rw [List.append_nil] at k1
  refine ⟨⟨cur, h1, h2.trans k1.symm, ?_, fun k x hx => WVat_kept (h4 k x hx) fun o => Kx_cell hK hb hbi⟩, by rw [k2]; exact hI, Kx_trans h6 (Kx_mono hK fun k h => .inl h), RowsK_trans h7 (RowsK_heap (hK.block b hb hbi)), by omega, (List.getElem?_eq_some_iff.1 hx).1⟩
  rw [← List.drop_drop, ← List.drop_drop, h3]
theorem take_setW {α : Type} {l : List α} {i : Nat} {x : α} (hi : i < l.length) : (l.set i x).take (i + 1) = l.take i ++ [x] := by
  rw [List.take_add_one, List.take_set_of_le (Nat.le_refl _), List.getElem?_set_self hi]; rfl
theorem setCells_all (b : Nat) : ∀ (vs : List Value) (o : Nat) (w : World), (∀ k, k ≠ b → (w.setCells b o vs).heap[k]? = w.heap[k]?) ∧ (∀ c, (w.setCells b o vs).frz? c = w.frz? c) ∧ (w.setCells b o vs).heap.size = w.heap.size ∧ (w.setCells b o vs).os = w.os ∧ (w.setCells b o vs).output = w.output := by
  intro vs
  induction vs with
  | nil => intro o w; exact ⟨fun _ _ => rfl, fun _ => rfl, rfl, rfl, rfl⟩
  | cons v vs ih =>
    intro o w
    obtain ⟨h1, h2, h3, h4, h5⟩ := ih (o + 1) (w.setCell ⟨b, o, none⟩ v)
    exact ⟨fun k hk => (h1 k hk).trans (setCell_heap hk), fun c => (h2 c).trans (frz_setCell _ _ _ _), h3.trans (by simp [World.setCell]), h4, h5⟩
def putW (w : World) (b o : Nat) (x : WV) : World :=
  (((((w.setCell ⟨b, o, none⟩ (.int .i64 x.id)).setCell ⟨b, o + 1, none⟩ (.int .i64 x.ends)).setCell ⟨b, o + 2, none⟩ (.string x.kind)).setCell ⟨b, o + 3, none⟩ (.int .i64 x.nonce)).setCell ⟨b, o + 4, none⟩ (.slice x.dat x.dln x.dcp)).setCell ⟨b, o + 5, none⟩ (.int .i64 x.tag)
theorem setCell_cell {w : World} {b o o' : Nat} {u z : Value} (h : w.cell? ⟨b, o, none⟩ = some z) : (w.setCell ⟨b, o, none⟩ u).cell? ⟨b, o', none⟩ = if o' = o then some u else w.cell? ⟨b, o', none⟩ := by
  by_cases e : o' = o
  · rw [if_pos e, e]; exact World.cell?_setCell_same _ _ _ h
  · rw [if_neg e]; exact World.cell?_setCell_other _ _ _ _ (by simp only [ne_eq, Addr.mk.injEq, not_and]; omega)
theorem putW_cell {w : World} {b o : Nat} {x y : WV} (h : WVat w b o y) (o' : Nat) : (putW w b o x).cell? ⟨b, o', none⟩ =
    if o' = o + 5 then some (.int .i64 x.tag) else if o' = o + 4 then some (.slice x.dat x.dln x.dcp) else if o' = o + 3 then some (.int .i64 x.nonce) else if o' = o + 2 then some (.string x.kind) else if o' = o + 1 then some (.int .i64 x.ends) else if o' = o then some (.int .i64 x.id) else w.cell? ⟨b, o', none⟩ := by
  obtain ⟨h0, h1, h2, h3, h4, h5⟩ := h
  have g0 := fun o' => setCell_cell (o' := o') (u := .int .i64 x.id) h0
  have g1 := fun o' => setCell_cell (o' := o') (u := .int .i64 x.ends) ((g0 (o + 1)).trans ((if_neg (by omega)).trans h1))
  have g2 := fun o' => setCell_cell (o' := o') (u := .string x.kind) ((g1 (o + 2)).trans ((if_neg (by omega)).trans ((g0 (o + 2)).trans ((if_neg (by omega)).trans h2))))
  have g3 := fun o' => setCell_cell (o' := o') (u := .int .i64 x.nonce) ((g2 (o + 3)).trans ((if_neg (by omega)).trans ((g1 (o + 3)).trans ((if_neg (by omega)).trans ((g0 (o + 3)).trans ((if_neg (by omega)).trans h3))))))
  have g4 := fun o' => setCell_cell (o' := o') (u := .slice x.dat x.dln x.dcp) ((g3 (o + 4)).trans ((if_neg (by omega)).trans ((g2 (o + 4)).trans ((if_neg (by omega)).trans ((g1 (o + 4)).trans ((if_neg (by omega)).trans ((g0 (o + 4)).trans ((if_neg (by omega)).trans h4))))))))
  have g5 := fun o' => setCell_cell (o' := o') (u := .int .i64 x.tag) ((g4 (o + 5)).trans ((if_neg (by omega)).trans ((g3 (o + 5)).trans ((if_neg (by omega)).trans ((g2 (o + 5)).trans ((if_neg (by omega)).trans ((g1 (o + 5)).trans ((if_neg (by omega)).trans ((g0 (o + 5)).trans ((if_neg (by omega)).trans h5))))))))))
  unfold putW
  rw [g5, g4, g3, g2, g1, g0]
theorem putW_heap {w : World} {b o k : Nat} {x : WV} (h : k ≠ b) : (putW w b o x).heap[k]? = w.heap[k]? := by
  unfold putW
  rw [setCell_heap h, setCell_heap h, setCell_heap h, setCell_heap h, setCell_heap h, setCell_heap h]
theorem putW_size {w : World} {b o : Nat} {x : WV} : (putW w b o x).heap.size = w.heap.size := by simp [putW, World.setCell]
theorem DfS_keep {B Bi b off : Nat} {now : Int} {rows : List WV} {w wr w2 : World} {i j : Nat} {x : WV} (h : DfS B Bi b off now rows w i j wr) (hx : rows[j]? = some x) (he : ¬ x.ends ≤ now) (hI : IdsAt B Bi (goneW now (rows.take j)) w2) (hK : Kx B (· = Bi) wr w2) (hb : b < B) (hbi : b ≠ Bi) :
    DfS B Bi b off now rows w (i + 1) (j + 1) (putW w2 b (off + i * 6) x) := by
  obtain ⟨⟨cur, h1, h2, h3, h4⟩, h5, h6, h7, h8, h9⟩ := h
  obtain ⟨k1, k2⟩ := keptW_snoc (now := now) hx
  rw [if_neg he] at k1 k2
  rw [List.append_nil] at k2
  have hjl := (List.getElem?_eq_some_iff.1 hx).1
  have hil : i < cur.length := by omega
  have hy := List.getElem?_eq_getElem hil
  generalize cur[i] = y at hy
  have hwy := WVat_kept (h4 i y hy) fun o => Kx_cell hK (o := o) hb hbi
  have hpc := putW_cell (x := x) hwy
  have hrk : RowsK b off (off + rows.length * 6) w w2 := RowsK_trans h7 (RowsK_heap (hK.block b hb hbi))
  refine ⟨⟨cur.set i x, by simpa using h1, ?_, ?_, fun k z hz => ?_⟩, ?_, ?_, ?_, by omega, by omega⟩
  · rw [take_setW hil, h2, k1]
  · rw [List.drop_set_of_lt (by omega)]
    rw [← List.drop_drop, ← List.drop_drop, h3]
  · by_cases hk : k = i
    · subst hk
      rw [List.getElem?_set_self hil] at hz
      cases hz
      unfold WVat
      rw [hpc, hpc, hpc, hpc, hpc, hpc]
      refine ⟨?_, ?_, ?_, ?_, ?_, ?_⟩ <;> simp
    · rw [List.getElem?_set_ne (fun e => hk e.symm)] at hz
      have hw := WVat_kept (h4 k z hz) fun o => Kx_cell hK (o := o) hb hbi
      unfold WVat at hw ⊢
      have hkk : k * 6 + 6 ≤ i * 6 ∨ i * 6 + 6 ≤ k * 6 := by omega
      rw [hpc, hpc, hpc, hpc, hpc, hpc]
      refine ⟨?_, ?_, ?_, ?_, ?_, ?_⟩
      · rw [if_neg (by omega), if_neg (by omega), if_neg (by omega), if_neg (by omega), if_neg (by omega), if_neg (by omega)]; exact hw.1
      · rw [if_neg (by omega), if_neg (by omega), if_neg (by omega), if_neg (by omega), if_neg (by omega), if_neg (by omega)]; exact hw.2.1
      · rw [if_neg (by omega), if_neg (by omega), if_neg (by omega), if_neg (by omega), if_neg (by omega), if_neg (by omega)]; exact hw.2.2.1
      · rw [if_neg (by omega), if_neg (by omega), if_neg (by omega), if_neg (by omega), if_neg (by omega), if_neg (by omega)]; exact hw.2.2.2.1
      · rw [if_neg (by omega), if_neg (by omega), if_neg (by omega), if_neg (by omega), if_neg (by omega), if_neg (by omega)]; exact hw.2.2.2.2.1
      · rw [if_neg (by omega), if_neg (by omega), if_neg (by omega), if_neg (by omega), if_neg (by omega), if_neg (by omega)]; exact hw.2.2.2.2.2
  · rw [k2]
    refine IdsAt_kept hI fun k hk _ => putW_heap ?_
    rcases hk with rfl | hk
    · exact fun e => hbi e.symm
    · omega
  · refine Kx_trans h6 (Kx_trans (Kx_mono hK fun k h => .inl h) ⟨by simp [putW, World.setCell], by simp [putW, World.setCell], by rw [putW_size]; exact Nat.le_refl _, fun k hk hkx => putW_heap fun e => hkx (.inr e)⟩)
  · refine RowsK_trans hrk ⟨fun y hy => ?_, fun y => ?_, fun y hy => ?_⟩
    · show (putW w2 b (off + i * 6) x).cell? ⟨b, y, none⟩ = _
      rw [hpc, if_neg (by omega), if_neg (by omega), if_neg (by omega), if_neg (by omega), if_neg (by omega), if_neg (by omega)]
    · unfold putW; rw [frz_setCell, frz_setCell, frz_setCell, frz_setCell, frz_setCell, frz_setCell]
    · show ((putW w2 b (off + i * 6) x).cell? ⟨b, y, none⟩).isSome = true
      rw [hpc]
      (repeat' split) <;> first | rfl | exact hy
set_option maxHeartbeats 4000000 in
set_option maxRecDepth 1000000 in
open Go.RowKit in
theorem df_walk (B Bn Bi : Nat) (now : Int) (rows : List WV) (b off cap : Nat) (w : World) (hBn : Bn < B) (hBi : Bi < B) (hne : Bn ≠ Bi) (hb : b < B) (hbi : b ≠ Bi) (hbn : b ≠ Bn) (hB : B ≤ w.heap.size) (hn : w.cell? ⟨Bn, 0, none⟩ = some (.int .i64 now))
    (hc : ∀ (k : Nat) x, rows[k]? = some x → WVat w b (off + k * 6) x) (hi : IdsAt B Bi [] w) (hr : rows.length ≤ 1048576) (hcap : rows.length ≤ cap)
    (hroom : ∀ t, t < rows.length * 6 → (w.cell? (at_ b (off + t))).isSome = true ∧ w.frz? (at_ b (off + t)) = false) :
    Calls PP 62 #[.slice (some ⟨b, off, none⟩) rows.length cap, .func (.func 63) #[] #[.pointer (some ⟨Bn, 0, none⟩), .pointer (some ⟨Bi, 0, none⟩)]] w fun e w' =>
      e = .returned (.slice (some ⟨b, off, none⟩) (keptW now rows).length cap) ∧ IdsAt B Bi (goneW now rows) w' ∧ Kx B (fun k => k = Bi ∨ k = b) w w' ∧ RowsK b off (off + rows.length * 6) w w' ∧
        ∀ (k : Nat) x, (keptW now rows)[k]? = some x → WVat w' b (off + k * 6) x := by
  unfold PP
  go_enter Tryd.func62, Tryd.ntmps62
  go_wp2_with (go_at_call 74; refine (idx_walk B Bn Bi now rows [] b off cap w hBn hBi hne hb hbi hB hn hc hi (by simp) hr).mono ?_)
  rintro e w1 ⟨r, rfl, hK1, hR⟩
  rcases hR with ⟨i0, x0, rfl, hx0, he0, hall, hI1⟩ | ⟨rfl, hall, hI1⟩
  · have hi0 := (List.getElem?_eq_some_iff.1 hx0).1
    have D0 := DfS_start hx0 he0 hall (by simpa using hI1) hK1 hb hbi hc
    go_wp2
    go_loopw [5, 6] (fun s t wr => ∃ i j : Nat, s = .int .i64 i ∧ t = .int .i64 j ∧ DfS B Bi b off now rows w i j wr) (fun _ t _ => rows.length - (intOf t).toNat)
    case atStart => exact ⟨i0, i0 + 1, rfl, by go_num, D0⟩
    case round =>
      obtain ⟨i, j, rfl, rfl, D⟩ := hrel
      have hij := D.lt
      have hjn := D.jn
      have hBr : B ≤ wr.heap.size := Nat.le_trans hB D.kx.size
      obtain ⟨cur, q1, q2, q3, q4⟩ := D.cur
      by_cases hlt : j < rows.length
      · have hx := List.getElem?_eq_getElem hlt
        have hcx : cur[j]? = some rows[j] := by
          have := congrArg (fun l => l[0]?) q3
          simpa [hx] using this
        generalize rows[j] = x at hx hcx
        have hil : i < cur.length := by omega
        have hin : i * 6 + 6 ≤ rows.length * 6 := by omega
        have hy := List.getElem?_eq_getElem hil
        generalize cur[i] = y at hy
        have hw := q4 j x hcx
        obtain ⟨c0, c1, c2, c3, c4, c5⟩ := hw
        obtain ⟨O, hO⟩ : ∃ O : Obj, O = .cells #[.int .i64 x.id, .int .i64 x.ends, .string x.kind, .int .i64 x.nonce, .slice x.dat x.dln x.dcp, .int .i64 x.tag] 61 := ⟨_, rfl⟩
        have hKO : Kx B (· = Bi) wr (wr.alloc O) := Kx_alloc _ _ hBr _
        have cn : (wr.alloc O).cell? ⟨Bn, 0, none⟩ = some (.int .i64 now) := ((Kx_cell hKO hBn hne).trans (Kx_cell D.kx hBn (by simp; omega))).trans hn
        have hIO : IdsAt B Bi (goneW now (rows.take j)) (wr.alloc O) := IdsAt_kept D.ids fun k hk hks => heap_alloc_old _ _ hks
        have hgl := goneW_len now (rows.take j)
        rw [List.length_take] at hgl
        have hcl := clo_walk B Bn Bi now x (goneW now (rows.take j)) (wr.alloc O) hBn hBi hne (Nat.le_trans hBr hKO.size) cn hIO (by omega)
        rw [hO] at hcl hKO
        by_cases he : x.ends ≤ now
        · rw [if_pos he, decide_eq_true he] at hcl
          go_wp2_with (go_at_call 63; refine hcl.mono ?_)
          rintro e w2 ⟨rfl, hI2, hK2, _⟩
          go_wp2
          go_roundw
          case rel =>
            have D2 := DfS_hit D hx he hI2 (Kx_trans hKO hK2) hb hbi
            exact ⟨_, _, _, _, _, _, _, _, _, _, _, _, _, _, _, _, _, _, _, _, _, _, _, ⟨i, j + 1, rfl, by go_num, D2⟩, rfl⟩
          case measure => simp [intOf]; omega
        · rw [if_neg he, decide_eq_false he] at hcl
          go_wp2_with (go_at_call 63; refine hcl.mono ?_)
          rintro e w2 rfl hI2 hK2 hst
          have hvb : w2.heap[wr.heap.size]? = some (.cells #[.int .i64 x.id, .int .i64 x.ends, .string x.kind, .int .i64 x.nonce, .slice x.dat x.dln x.dcp, .int .i64 x.tag] 61 (0, 0)) := by
            rw [hst (by first | exact trivial | omega) wr.heap.size (by simp)]
            show (wr.heap.push _)[wr.heap.size]? = _
            rw [Array.getElem?_push_size]
          obtain ⟨y0, y1, y2, y3, y4, y5⟩ := WVat_kept (q4 i y hy) fun o => Kx_cell (Kx_trans hKO hK2) (o := o) hb hbi
          have v0 : w2.cell? ⟨wr.heap.size, 0, none⟩ = some (.int .i64 x.id) := by simp [World.cell?, hvb]
          have v1 : w2.cell? ⟨wr.heap.size, 1, none⟩ = some (.int .i64 x.ends) := by simp [World.cell?, hvb]
          have v2 : w2.cell? ⟨wr.heap.size, 2, none⟩ = some (.string x.kind) := by simp [World.cell?, hvb]
          have v3 : w2.cell? ⟨wr.heap.size, 3, none⟩ = some (.int .i64 x.nonce) := by simp [World.cell?, hvb]
          have v4 : w2.cell? ⟨wr.heap.size, 4, none⟩ = some (.slice x.dat x.dln x.dcp) := by simp [World.cell?, hvb]
          have v5 : w2.cell? ⟨wr.heap.size, 5, none⟩ = some (.int .i64 x.tag) := by simp [World.cell?, hvb]
          have hfr : ∀ o u, w2.cell? (at_ b o) = some u → off ≤ o → o < off + rows.length * 6 → w2.frozen? ⟨b, o, none⟩ = false := by
            intro o u hu h1 h2
            have hf := (hroom (o - off) (by have := h1; have := h2; omega)).2
            rw [show off + (o - off) = o by omega] at hf
            refine frozen_of hu ?_
            have e1 : w2.frz? (at_ b o) = wr.frz? (at_ b o) := (RowsK_heap (lo := 0) (hi := 0) ((Kx_trans hKO hK2).block b hb hbi)).frz o
            rw [e1, D.rk.frz o]
            exact hf
          have f0 := hfr _ _ y0 (by omega) (by omega)
          have f1 := hfr _ _ y1 (by omega) (by omega)
          have f2 := hfr _ _ y2 (by omega) (by omega)
          have f3 := hfr _ _ y3 (by omega) (by omega)
          have f4 := hfr _ _ y4 (by omega) (by omega)
          have f5 := hfr _ _ y5 (by omega) (by omega)
          clear hfr hvb
          go_wp2
          go_roundw
          case rel =>
            refine ⟨_, _, _, _, _, _, _, _, _, _, _, _, _, _, _, _, _, _, _, _, _, _, _, ⟨i + 1, j + 1, by go_num, by go_num, DfS_keep D hx (by omega) hI2 (Kx_trans hKO hK2) hb hbi⟩, rfl⟩
          case measure => simp [intOf]; omega
      · have hje : j = rows.length := by omega
        subst hje
        rw [List.take_length] at q2
        have hni : (rows.length - i) * 6 = rows.length * 6 - i * 6 := by omega
        have hil : i ≤ cur.length := by omega
        have hlen : (keptW now rows).length = i := by rw [← q2, List.length_take]; omega
        have hcl := run_clear_rows (P := Tryd.prog) wr 26 61 0 (.agg #[.int .i64 0, .int .i64 0, .string ⟨#[]⟩, .int .i64 0, .slice none 0 0, .int .i64 0]) Tryd.underlying26 Tryd.zeroValue61 (by intro u hu; simp [Value.cells] at hu; rcases hu with rfl | rfl | rfl | rfl | rfl | rfl <;> rfl) b (off + i * 6) (rows.length - i) (cap - i) (by omega) (by decide) (fun t ht => by
            have h6 : t < (rows.length - i) * 6 := ht
            have := D.rk.some (off + (i * 6 + t)) (hroom (i * 6 + t) (by omega)).1
            rw [Nat.add_assoc]; exact this) (fun t ht => by
            have h6 : t < (rows.length - i) * 6 := ht
            have h1 := D.rk.some (off + (i * 6 + t)) (hroom (i * 6 + t) (by omega)).1
            obtain ⟨u, hu⟩ := Option.isSome_iff_exists.1 h1
            rw [Nat.add_assoc]
            exact frozen_of hu ((D.rk.frz _).trans (hroom (i * 6 + t) (by omega)).2))
        obtain ⟨zs, hzs⟩ : ∃ zs, (Builtin.zeroCells (Value.agg #[.int .i64 0, .int .i64 0, .string ⟨#[]⟩, .int .i64 0, .slice none 0 0, .int .i64 0]).cells (rows.length - i)).toList = zs := ⟨_, rfl⟩
        have hzl : zs.length = (rows.length - i) * 6 := by rw [← hzs]; simp [Builtin.zeroCells, Value.cells]
        rw [hzs] at hcl
        obtain ⟨s1, s2, s3, s4, s5⟩ := setCells_all b zs (off + i * 6) wr
        have hout : ∀ y, y < off + i * 6 ∨ off + rows.length * 6 ≤ y → (wr.setCells b (off + i * 6) zs).cell? ⟨b, y, none⟩ = wr.cell? ⟨b, y, none⟩ := fun y hy =>
          World.cell?_setCells_out b zs _ wr _ fun _ _ => by
            show y < off + i * 6 ∨ off + i * 6 + zs.length ≤ y
            omega
        have hsm : ∀ y, (wr.cell? ⟨b, y, none⟩).isSome = true → ((wr.setCells b (off + i * 6) zs).cell? ⟨b, y, none⟩).isSome = true := fun y hy => World.isSome_setCells b zs _ wr _ hy
        have hic : i ≤ cap := by omega
        go_wp2
        go_ret
        rw [hlen]
        refine ⟨rfl, ?_, ?_, ?_, fun k x hx => ?_⟩
        · have hids := D.ids
          rw [List.take_length] at hids
          refine IdsAt_kept hids fun k hk _ => s1 k ?_
          rcases hk with rfl | hk
          · exact fun e => hbi e.symm
          · omega
        · exact Kx_trans D.kx ⟨s4, s5, by rw [s3]; exact Nat.le_refl _, fun k hk hkx => s1 k fun e => hkx (.inr e)⟩
        · refine RowsK_trans D.rk ⟨fun y hy => hout y (by omega), fun y => s2 _, fun y hy => hsm y hy⟩
        · have hki : k < i := by rw [← hlen]; exact (List.getElem?_eq_some_iff.1 hx).1
          rw [← q2, List.getElem?_take_of_lt hki] at hx
          have hw := q4 k x hx
          unfold WVat at hw ⊢
          rw [hout _ (by omega), hout _ (by omega), hout _ (by omega), hout _ (by omega), hout _ (by omega), hout _ (by omega)]
          exact hw
  · go_wp2
    go_ret
    obtain ⟨e1, e2⟩ := keptW_lasts hall
    rw [e1, e2]
    exact ⟨rfl, hI1, Kx_mono hK1 fun k h => .inl h, RowsK_heap (hK1.block b hb hbi), fun k x hx => WVat_kept (hc k x hx) fun o => Kx_cell hK1 hb hbi⟩
def endedG (now : Int) (x : GWrap) : Bool := decide (x.fEnds ≤ now)
def keptG (now : Int) (l : List GWrap) : List GWrap := l.filter fun x => !endedG now x
def goneG (now : Int) (l : List GWrap) : List Int := (l.filter (endedG now)).map GWrap.fId
theorem own_perm2 {w w' : World} {Fz : PSet} {k sz b off cap : Nat} {rows rows' : List (List D)} {T : Nat → PSet} (σ : Nat → Nat)
    (h1 : rows'.length ≤ cap) (hrow' : ∀ r, r ∈ rows' → r.length = sz) (h4 : ∀ m d, rows.flatten[m]? = some d → ∃ u, w.cell? (at_ b (off + m)) = some u ∧ Own w Fz k u d (T m)) (hd : Disj rows.flatten.length T)
    (h6 : ∀ m, m < rows.flatten.length → ∀ x y, rng b off (cap * sz) x y → ¬ T m x y)
    (hσ : ∀ m d, rows'.flatten[m]? = some d → rows.flatten[σ m]? = some d ∧ w'.cell? (at_ b (off + m)) = w.cell? (at_ b (off + σ m))) (hinj : ∀ m n, m < rows'.flatten.length → n < rows'.flatten.length → m ≠ n → σ m ≠ σ n)
    (hkF : Keeps w w' Fz) (hkT : ∀ m, m < rows.flatten.length → Keeps w w' (T m)) (hroom' : Room w' b off (cap * sz)) :
    Own w' Fz (k + 1) (.slice (some (at_ b off)) rows'.length cap) (.slc sz rows') (fun x y => rng b off (cap * sz) x y ∨ ∃ m, m < rows'.flatten.length ∧ T (σ m) x y) := by
  have hlt : ∀ m, m < rows'.flatten.length → σ m < rows.flatten.length := fun m hm => (List.getElem?_eq_some_iff.1 (hσ m _ (List.getElem?_eq_getElem hm)).1).1
  refine .inr ⟨b, off, cap, fun m => T (σ m), rfl, h1, hroom', hrow', ?_, ?_, ?_, fun x y => Iff.rfl⟩
  · intro m d hm
    obtain ⟨e1, e2⟩ := hσ m d hm
    obtain ⟨u, hu, ho⟩ := h4 _ _ e1
    exact ⟨u, e2.trans hu, ho.mono (fun _ _ h => h) hkF k (hkT _ (List.getElem?_eq_some_iff.1 e1).1)⟩
  · intro m n hm hn hne
    exact hd _ _ (hlt m hm) (hlt n hn) (hinj m n hm hn hne)
  · intro m hm x y hr
    exact h6 _ (hlt m hm) x y hr
def SameW (x : GWrap) (y : WV) : Prop := y.id = x.fId ∧ y.ends = x.fEnds
theorem own_slice {w : World} {Fz S : PSet} {k sz : Nat} {v : Value} {rows : List (List D)} (h : Own w Fz (k + 1) v (.slc sz rows) S) : ∃ (a : Option Addr) (n c : Nat), v = .slice a n c := by
  rcases h with ⟨rfl, _⟩ | ⟨b, off, cap, T, rfl, _⟩
  · exact ⟨_, _, _, rfl⟩
  · exact ⟨_, _, _, rfl⟩
theorem wv_of {w : World} {Fz : PSet} {b o : Nat} {x : GWrap} (h : ∀ j d, x.row[j]? = some d → ∃ u S, w.cell? (at_ b (o + j)) = some u ∧ Own w Fz 1 u d S) : ∃ y : WV, SameW x y ∧ WVat w b o y := by
  obtain ⟨u0, _, c0, h0⟩ := h 0 _ rfl
  obtain ⟨u1, _, c1, h1⟩ := h 1 _ rfl
  obtain ⟨u2, _, c2, h2⟩ := h 2 _ rfl
  obtain ⟨u3, _, c3, h3⟩ := h 3 _ rfl
  obtain ⟨u4, _, c4, h4⟩ := h 4 _ rfl
  obtain ⟨u5, _, c5, h5⟩ := h 5 _ rfl
  obtain ⟨a, n, c, rfl⟩ := own_slice h4
  have h0 := h0.1
  have h1 := h1.1
  have h2 := h2.1
  have h3 := h3.1
  have h5 := h5.1
  cases h0
  cases h1
  cases h2
  cases h3
  cases h5
  exact ⟨⟨x.fId, x.fEnds, ⟨x.fKind.toArray⟩, x.fBox.fNonce, a, n, c, x.fBox.fTag⟩, ⟨rfl, rfl⟩, c0, c1, c2, c3, c4, c5⟩
theorem flat_rWrap (a : List GWrap) {k : Nat} {x : GWrap} (h : a[k]? = some x) (j : Nat) (hj : j < 6) : (rWrap a).flatten[k * 6 + j]? = x.row[j]? := by
  induction a generalizing k with
  | nil => simp at h
  | cons y a ih =>
    have e : (rWrap (y :: a)).flatten = y.row ++ (rWrap a).flatten := rfl
    rw [e]
    cases k with
    | zero => simp at h; subst h; rw [List.getElem?_append_left (by simp; omega)]; simp
    | succ k =>
      rw [List.getElem?_append_right (by simp; omega)]
      have := ih (by simpa using h)
      rw [← this]
      congr 1
      simp; omega
theorem flat_rWrap_len (a : List GWrap) : (rWrap a).flatten.length = a.length * 6 := by
  induction a with
  | nil => rfl
  | cons x a ih =>
    have e : (rWrap (x :: a)).flatten = x.row ++ (rWrap a).flatten := rfl
    rw [e, List.length_append, ih]
    simp; omega
def Sames (l : List GWrap) (r : List WV) : Prop := l.length = r.length ∧ ∀ (k : Nat) x y, l[k]? = some x → r[k]? = some y → SameW x y
theorem Sames_tail {x : GWrap} {y : WV} {l : List GWrap} {r : List WV} (h : Sames (x :: l) (y :: r)) : SameW x y ∧ Sames l r :=
  ⟨h.2 0 x y rfl rfl, by simpa using h.1, fun k a b ha hb => h.2 (k + 1) a b (by simpa using ha) (by simpa using hb)⟩
theorem sames_gone {now : Int} : ∀ {l : List GWrap} {r : List WV}, Sames l r → goneW now r = goneG now l ∧ (keptW now r).length = (keptG now l).length := by
  intro l
  induction l with
  | nil =>
    intro r h
    have : r = [] := List.length_eq_zero_iff.1 h.1.symm
    subst this
    exact ⟨rfl, rfl⟩
  | cons x l ih =>
    intro r h
    cases r with
    | nil => simp [Sames] at h
    | cons y r =>
      obtain ⟨⟨h1, h2⟩, ht⟩ := Sames_tail h
      obtain ⟨i1, i2⟩ := ih ht
      unfold goneW goneG at i1 ⊢
      unfold keptW keptG at i2 ⊢
      have e : endedW now y = endedG now x := by simp [endedW, endedG, h2]
      cases hb : endedG now x with
      | true => rw [hb] at e; simp [List.filter_cons, e, hb, i1, i2, h1]
      | false => rw [hb] at e; simp [List.filter_cons, e, hb, i1, i2]
theorem sames_place {now : Int} : ∀ {l : List GWrap} {r : List WV}, Sames l r → ∃ ρ : Nat → Nat, (∀ m n, m ≠ n → ρ m ≠ ρ n) ∧ (∀ k x, (keptG now l)[k]? = some x → l[ρ k]? = some x) ∧ ∀ k y, (keptW now r)[k]? = some y → r[ρ k]? = some y := by
  intro l
  induction l with
  | nil =>
    intro r h
    have : r = [] := List.length_eq_zero_iff.1 h.1.symm
    subst this
    exact ⟨id, fun m n h => h, fun k x hx => by simp [keptG] at hx, fun k x hx => by simp [keptW] at hx⟩
  | cons x l ih =>
    intro r h
    cases r with
    | nil => simp [Sames] at h
    | cons y r =>
      obtain ⟨⟨h1, h2⟩, ht⟩ := Sames_tail h
      obtain ⟨ρ, i1, i2, i3⟩ := ih ht
      have e : endedW now y = endedG now x := by simp [endedW, endedG, h2]
      cases hb : endedG now x with
      | true =>
        rw [hb] at e
        refine ⟨fun k => ρ k + 1, fun m n hmn => by have := i1 m n hmn; show ρ m + 1 ≠ ρ n + 1; omega, fun k z hz => ?_, fun k z hz => ?_⟩
        · have : keptG now (x :: l) = keptG now l := by simp [keptG, hb]
          rw [this] at hz
          simpa using i2 k z hz
        · have : keptW now (y :: r) = keptW now r := by simp [keptW, e]
          rw [this] at hz
          simpa using i3 k z hz
      | false =>
        rw [hb] at e
        refine ⟨fun k => match k with | 0 => 0 | k + 1 => ρ k + 1, fun m n hmn => ?_, fun k z hz => ?_, fun k z hz => ?_⟩
        · cases m with
          | zero => cases n with
            | zero => exact absurd rfl hmn
            | succ n => simp
          | succ m => cases n with
            | zero => simp
            | succ n => have := i1 m n (by omega); simp; omega
        · have : keptG now (x :: l) = x :: keptG now l := by simp [keptG, hb]
          rw [this] at hz
          cases k with
          | zero => simpa using hz
          | succ k => simpa using i2 k z (by simpa using hz)
        · have : keptW now (y :: r) = y :: keptW now r := by simp [keptW, e]
          rw [this] at hz
          cases k with
          | zero => simpa using hz
          | succ k => simpa using i3 k z (by simpa using hz)
theorem wv_cell {w w' : World} {b o o' : Nat} {y : WV} (h : WVat w' b o y) (h' : WVat w b o' y) (c : Nat) (hc : c < 6) : w'.cell? (at_ b (o + c)) = w.cell? (at_ b (o' + c)) := by
  obtain ⟨a0, a1, a2, a3, a4, a5⟩ := h
  obtain ⟨b0, b1, b2, b3, b4, b5⟩ := h'
  match c, hc with
  | 0, _ => exact a0.trans b0.symm
  | 1, _ => exact a1.trans b1.symm
  | 2, _ => exact a2.trans b2.symm
  | 3, _ => exact a3.trans b3.symm
  | 4, _ => exact a4.trans b4.symm
  | 5, _ => exact a5.trans b5.symm
theorem wvs_of {w : World} {b off : Nat} (l : List GWrap) (h : ∀ (k : Nat) x, l[k]? = some x → ∃ y : WV, SameW x y ∧ WVat w b (off + k * 6) y) :
    ∃ r : List WV, Sames l r ∧ ∀ (k : Nat) y, r[k]? = some y → WVat w b (off + k * 6) y := by
  have hc : ∀ k, ∃ y : WV, ∀ x, l[k]? = some x → SameW x y ∧ WVat w b (off + k * 6) y := by
    intro k
    cases hk : l[k]? with
    | none => exact ⟨⟨0, 0, ⟨#[]⟩, 0, none, 0, 0, 0⟩, fun x hx => by cases hx⟩
    | some x =>
      obtain ⟨y, hy⟩ := h k x hk
      exact ⟨y, fun x' hx' => by cases hx'; exact hy⟩
  refine ⟨(List.range l.length).map fun k => Classical.choose (hc k), ⟨by simp, fun k x y hx hy => ?_⟩, fun k y hy => ?_⟩
  · rw [List.getElem?_map] at hy
    obtain ⟨k', hk', rfl⟩ := Option.map_eq_some_iff.1 hy
    have : k' = k := by
      have := (List.getElem?_eq_some_iff.1 hk').2
      simpa using this.symm
    subst this
    exact (Classical.choose_spec (hc k') x hx).1
  · rw [List.getElem?_map] at hy
    obtain ⟨k', hk', rfl⟩ := Option.map_eq_some_iff.1 hy
    obtain ⟨hlt, he⟩ := List.getElem?_eq_some_iff.1 hk'
    have : k' = k := by simpa using he.symm
    subst this
    have hl : k' < l.length := by simpa using hlt
    have hx := List.getElem?_eq_getElem hl
    exact (Classical.choose_spec (hc k') _ hx).2
set_option maxHeartbeats 4000000 in
set_option maxRecDepth 1000000 in
open Go.RowKit in
theorem idx_empty (ao : Option Addr) (cap : Nat) (fv : Value) (w : World) : Calls PP 74 #[.slice ao 0 cap, fv] w fun e w' => e = .returned (.int .i64 (-1)) ∧ w' = w := by
  unfold PP
  go_enter Tryd.func74, Tryd.ntmps74
  go_wp2
  go_loopw [8] (fun s wr => s = .int .i64 0 ∧ wr = w) (fun _ _ => 0)
  case atStart => exact ⟨rfl, rfl⟩
  case round =>
    obtain ⟨rfl, rfl⟩ := hrel
    go_wp2
    go_ret
    first | exact ⟨rfl, rfl⟩ | trivial
set_option maxHeartbeats 4000000 in
set_option maxRecDepth 1000000 in
open Go.RowKit in
theorem df_empty (ao : Option Addr) (cap : Nat) (fv : Value) (w : World) : Calls PP 62 #[.slice ao 0 cap, fv] w fun e w' => e = .returned (.slice ao 0 cap) ∧ w' = w := by
  unfold PP
  go_enter Tryd.func62, Tryd.ntmps62
  go_wp2_with (go_at_call 74; refine (idx_empty ao cap fv w).mono ?_)
  rintro e w1 ⟨rfl, rfl⟩
  go_wp2
  go_ret
  first | exact ⟨rfl, rfl⟩ | trivial
theorem df_own (B Bn Bi : Nat) (now : Int) (l : List GWrap) (v : Value) (Fz S : PSet) (w : World) (hBn : Bn < B) (hBi : Bi < B) (hne : Bn ≠ Bi) (hB : B ≤ w.heap.size) (hn : w.cell? ⟨Bn, 0, none⟩ = some (.int .i64 now))
    (hown : Own w Fz 2 v (.slc 6 (rWrap l)) S) (hi : IdsAt B Bi [] w) (hl : l.length ≤ 1048576) (hSB : ∀ x y, S x y → x < B ∧ x ≠ Bi ∧ x ≠ Bn) (hFB : ∀ x y, Fz x y → x < B ∧ x ≠ Bi) (hSF : ∀ x y, S x y → ¬ Fz x y) :
    Calls PP 62 #[v, .func (.func 63) #[] #[.pointer (some ⟨Bn, 0, none⟩), .pointer (some ⟨Bi, 0, none⟩)]] w fun e w' =>
      ∃ (a : Option Addr) (n c : Nat) (S' : PSet), e = .returned (.slice a n c) ∧ Own w' Fz 2 (.slice a n c) (.slc 6 (rWrap (keptG now l))) S' ∧ (∀ x y, S' x y → S x y) ∧ IdsAt B Bi (goneG now l) w' ∧
        Kx B (fun k => k = Bi ∨ ∃ y, S k y) w w' ∧ Keeps w w' Fz := by
  rcases hown with ⟨rfl, he, hS⟩ | ⟨b, off, cap, T, rfl, h1, h2, h3, h4, h5, h6, h7⟩
  · have : l = [] := by cases l with | nil => rfl | cons => simp [rWrap] at he
    subst this
    refine (df_empty none 0 _ w).mono ?_
    rintro e w' ⟨rfl, rfl⟩
    exact ⟨none, 0, 0, S, rfl, .inl ⟨rfl, rfl, hS⟩, fun _ _ h => h, hi, Kx_refl _ _ _, Keeps.refl _ _⟩
  · rw [rWrap_len] at h1 ⊢
    by_cases h0 : l = []
    · subst h0
      refine (df_empty (some (at_ b off)) cap _ w).mono ?_
      rintro e w' ⟨rfl, rfl⟩
      exact ⟨some (at_ b off), 0, cap, S, rfl, .inr ⟨b, off, cap, T, rfl, h1, h2, h3, h4, h5, h6, h7⟩, fun _ _ h => h, hi, Kx_refl _ _ _, Keeps.refl _ _⟩
    have hlp : 0 < l.length := List.length_pos_iff.2 h0
    have hbS : S b off := (h7 b off).2 (.inl ⟨rfl, Nat.le_refl _, by omega⟩)
    obtain ⟨hbB, hbi, hbn⟩ := hSB b off hbS
    obtain ⟨r, hs, hr⟩ := wvs_of (w := w) (b := b) (off := off) l fun k x hx => wv_of (Fz := Fz) fun j d hj => by
      have hj6 : j < 6 := by have := (List.getElem?_eq_some_iff.1 hj).1; simpa using this
      obtain ⟨u, hu, ho⟩ := h4 (k * 6 + j) d ((flat_rWrap l hx j hj6).trans hj)
      exact ⟨u, _, by rw [← Nat.add_assoc] at hu; exact hu, ho⟩
    have hrl := hs.1
    have hcap6 : l.length * 6 ≤ cap * 6 := Nat.mul_le_mul_right 6 h1
    have key := df_walk B Bn Bi now r b off cap w hBn hBi hne hbB hbi hbn hB hn hr hi (by omega) (by omega) fun t ht => by
      obtain ⟨⟨u, hu⟩, hf⟩ := h2 t (by omega)
      exact ⟨by rw [hu]; rfl, hf⟩
    rw [← hrl] at key
    refine key.mono ?_
    rintro e w' ⟨rfl, hI, hK, hRK, hW⟩
    obtain ⟨g1, g2⟩ := sames_gone (now := now) hs
    obtain ⟨ρ, r1, r2, r3⟩ := sames_place (now := now) hs
    rw [g1] at hI
    rw [g2]
    have hkT : ∀ m, m < (rWrap l).flatten.length → Keeps w w' (T m) := by
      intro m hm x y hx
      have hSx : S x y := (h7 x y).2 (.inr ⟨m, hm, hx⟩)
      obtain ⟨q1, q2, q3⟩ := hSB x y hSx
      by_cases hxb : x = b
      · subst hxb
        have hnr : ¬ (off ≤ y ∧ y < off + l.length * 6) := fun h => h6 m hm x y ⟨rfl, h.1, by omega⟩ hx
        exact ⟨hRK.out y hnr, hRK.frz y⟩
      · exact keep_of_heap (hK.block x q1 (by rintro (h | h); exact q2 h; exact hxb h)) y
    have hkF : Keeps w w' Fz := by
      intro x y hx
      obtain ⟨q1, q2⟩ := hFB x y hx
      by_cases hxb : x = b
      · subst hxb
        have hnr : ¬ (off ≤ y ∧ y < off + l.length * 6) := fun h => hSF x y ((h7 x y).2 (.inl ⟨rfl, h.1, by omega⟩)) hx
        exact ⟨hRK.out y hnr, hRK.frz y⟩
      · exact keep_of_heap (hK.block x q1 (by rintro (h | h); exact q2 h; exact hxb h)) y
    have hroom' : Room w' b off (cap * 6) := by
      intro o ho
      obtain ⟨⟨u, hu⟩, hf⟩ := h2 o ho
      exact ⟨Option.isSome_iff_exists.1 (hRK.some _ (by rw [hu]; rfl)), (hRK.frz _).trans hf⟩
    have hkl : (keptG now l).length ≤ l.length := List.length_filter_le _ _
    have hkf := flat_rWrap_len (keptG now l)
    have hown' := own_perm2 (w := w) (w' := w') (Fz := Fz) (k := 1) (sz := 6) (b := b) (off := off) (cap := cap) (rows := rWrap l) (rows' := rWrap (keptG now l)) (T := T)
      (fun m => ρ (m / 6) * 6 + m % 6) (by rw [rWrap_len]; omega) (rWrap_row _) h4 h5 h6 (fun m d hd => ?_) (fun m n hm hn hne => ?_) hkF hkT hroom'
    · rw [rWrap_len] at hown'
      exact ⟨some (at_ b off), (keptG now l).length, cap, _, rfl, hown', fun x y hx => by
        rcases hx with hx | ⟨m, hm, hx⟩
        · exact (h7 x y).2 (.inl hx)
        · refine (h7 x y).2 (.inr ⟨_, ?_, hx⟩)
          rw [hkf] at hm
          have hk : m / 6 < (keptG now l).length := by omega
          have := (List.getElem?_eq_some_iff.1 (r2 (m / 6) _ (List.getElem?_eq_getElem hk))).1
          rw [flat_rWrap_len]; omega, hI, Kx_mono hK (by
        rintro k (rfl | rfl)
        · exact .inl rfl
        · exact .inr ⟨off, hbS⟩), hkF⟩
    · have hm := (List.getElem?_eq_some_iff.1 hd).1
      rw [hkf] at hm
      have hk : m / 6 < (keptG now l).length := by omega
      have hx := List.getElem?_eq_getElem hk
      generalize (keptG now l)[m / 6] = x at hx
      have e6 : m / 6 * 6 + m % 6 = m := by omega
      have hd' := flat_rWrap (keptG now l) hx (m % 6) (by omega)
      rw [e6, hd] at hd'
      have hlx := r2 (m / 6) x hx
      refine ⟨(flat_rWrap l hlx (m % 6) (by omega)).trans hd'.symm, ?_⟩
      have hkw : m / 6 < (keptW now r).length := by rw [g2]; exact hk
      have hy := List.getElem?_eq_getElem hkw
      generalize (keptW now r)[m / 6] = y at hy
      have a1 := hW (m / 6) y hy
      have a2 := hr (ρ (m / 6)) y (r3 (m / 6) y hy)
      have c := wv_cell a1 a2 (m % 6) (by omega)
      rw [Nat.add_assoc, e6, Nat.add_assoc] at c
      exact c
    · rw [hkf] at hm hn
      by_cases h : m / 6 = n / 6
      · rw [h]; omega
      · have := r1 _ _ h
        omega
def CloneR (r : GRack) (Fz : PSet) (w w' : World) (v : Value) : Prop :=
  ∃ (Fz' S : PSet), Own w' Fz' 2 v (.slc 6 (rWrap r.fWraps)) S ∧ (∀ x y, S x y → w.heap.size ≤ x ∧ x < w'.heap.size ∧ ¬ Fz' x y) ∧ (∀ x y, Fz x y → Fz' x y) ∧ (∀ x y, Fz' x y → (Fz x y ∨ w.heap.size ≤ x) ∧ x < w'.heap.size) ∧
    (w'.os = w.os ∧ w'.output = w.output ∧ w.heap.size ≤ w'.heap.size ∧ ∀ k, k < w.heap.size → w'.heap[k]? = w.heap[k]?)
theorem clone_walk {GG : GV} (r : GRack) (hc : r.cost ≤ 1048576) (w : World) (Fz : PSet) (v : Value) (hG : ∀ b p, GG b = some p → (∀ o, Fz b o) ∧ ∃ ob, w.heap[b]? = some ob ∧ p ob) (hFz : ∀ b o, Fz b o → b < w.heap.size) (hv : Shr w Fz v (.slc 6 (rWrap r.fWraps))) :
    Calls PP F_I_cloneRack #[.agg #[.int .i64 r.fKey, .int .i64 r.fNext, v]] w fun e w' => ∃ (a : Option Addr) (n c : Nat), e = .returned (.agg #[.int .i64 r.fKey, .int .i64 r.fNext, .slice a n c]) ∧ CloneR r Fz w w' (.slice a n c) := by
  refine ((cloneRack_ok (GG := GG) r hc).2 w #[.agg #[.int .i64 r.fKey, .int .i64 r.fNext, v]] Fz (fun _ _ _ => False) hG hFz ⟨rfl, fun m c' hm => ?_, fun _ _ _ _ _ _ _ h => h.elim⟩ (fun _ _ _ _ h => h.elim)).mono ?_
  · match m, hm with
    | 0, hm =>
      cases hm
      refine .agg _ _ (fun _ _ _ => False) _ rfl (fun m c hm => ?_) (fun m c hm => ?_) (fun _ _ _ _ _ _ _ h => h.elim) (fun x y => ⟨fun h => h.elim, fun ⟨_, _, h⟩ => h⟩)
      · match m, hm with
        | 0, _ => rfl
        | 1, _ => rfl
        | 2, _ => exact hv.one
        | m + 3, hm => simp at hm
      · match m, hm with
        | 0, hm => cases hm; exact .d _ _ _ (.int _ _) fun _ _ h => h
        | 1, hm => cases hm; exact .d _ _ _ (.int _ _) fun _ _ h => h
        | 2, hm => cases hm; exact .d _ _ _ hv fun _ _ h => h
        | m + 3, hm => simp at hm
    | m + 1, hm => simp at hm
  · rintro e w' ⟨v', Fz', U', rfl, hp⟩
    have hr := hp.res
    have hmine := hp.mine 0
    generalize U' 0 = S0 at hr hmine
    cases hr with
    | agg _ vs T _ hl h1 hs hd hS =>
      have q0 := hs 0 _ rfl
      have q1 := hs 1 _ rfl
      have q2 := hs 2 _ rfl
      have e1 : vs = #[vs.getD 0 Go.undef, vs.getD 1 Go.undef, vs.getD 2 Go.undef] := by
        apply Array.ext
        · simpa using hl
        · intro i h1 h2
          simp at hl h2
          match i, h2 with
          | 0, _ => simp [hl]
          | 1, _ => simp [hl]
          | 2, _ => simp [hl]
      generalize vs.getD 0 Go.undef = v0 at *
      generalize vs.getD 1 Go.undef = v1 at *
      generalize vs.getD 2 Go.undef = v2 at *
      have hT2 : ∀ x y, T 2 x y → S0 x y := fun x y h => (hS x y).2 ⟨2, by simp, h⟩
      generalize T 0 = T0 at q0
      generalize T 1 = T1 at q1
      generalize T 2 = T2 at q2 hT2
      cases q0 with | d _ _ _ q0 _ => ?_
      cases q1 with | d _ _ _ q1 _ => ?_
      cases q2 with | own _ _ _ _ _ q2 => ?_
      cases q0
      cases q1
      obtain ⟨a, n, c, rfl⟩ := own_slice q2
      rw [e1]
      refine ⟨a, n, c, rfl, Fz', T2, q2, fun x y h => ?_, hp.fz, fun x y h => ⟨?_, hp.fzlt x y h⟩, hp.side.1, hp.side.2, hp.size, fun k hk => hp.blk k hk fun o ⟨_, _, h⟩ => h⟩
      · obtain ⟨m1, m2, m3⟩ := hmine x y (hT2 x y h)
        rcases m1 with ⟨_, _, h⟩ | m1
        · exact h.elim
        · exact ⟨m1, m3, m2⟩
      · rcases hp.fzof x y h with h | ⟨_, _, h⟩ | h
        · exact .inl h
        · exact h.elim
        · exact .inr h
def DfR (B Bi : Nat) (now : Int) (l : List GWrap) (Fz S : PSet) (w w' : World) (v : Value) : Prop :=
  ∃ S' : PSet, Own w' Fz 2 v (.slc 6 (rWrap (keptG now l))) S' ∧ (∀ x y, S' x y → S x y) ∧ IdsAt B Bi (goneG now l) w' ∧ Kx B (fun k => k = Bi ∨ ∃ y, S k y) w w' ∧ Keeps w w' Fz
theorem ints_flatW (l : List Int) : (intsD l).flatten = l.map (D.int .i64) := by
  induction l with
  | nil => rfl
  | cons x l ih => simp only [intsD, List.map_cons, List.flatten_cons] at ih ⊢; rw [ih]; rfl
theorem ids_own {B : Nat} {l : List Int} {v : Value} {w : World} {Fz : PSet} (h : w.ownsRow B 3 1 v l.length (l.map (Value.int .i64))) :
    (∃ (a : Option Addr) (n c : Nat), v = .slice a n c) ∧ ∃ S : PSet, Own w Fz 1 v (.slc 1 (intsD l)) S ∧ ∀ x y, S x y → B ≤ x ∧ x < w.heap.size := by
  rcases h.2 with ⟨rfl, h0⟩ | ⟨g, cap, cur, rfl, hg, hgg, hn, hm, hs, ht⟩
  · have : l = [] := List.length_eq_zero_iff.1 h0
    subst this
    exact ⟨⟨_, _, _, rfl⟩, fun _ _ => False, .inl ⟨rfl, rfl, fun _ _ h => h⟩, fun _ _ h => h.elim⟩
  · have hfl := ints_flatW l
    have hil : (intsD l).length = l.length := by simp [intsD]
    refine ⟨⟨_, _, _, rfl⟩, rng g 0 cap, .inr ⟨g, 0, cap, fun _ _ _ => False, by rw [hil], by rw [hil]; exact hn, ?_, ?_, ?_, fun _ _ _ _ _ _ _ h => h.elim, fun _ _ _ _ _ h => h.elim, fun x y => ⟨fun h => .inl (by simpa using h), fun h => h.elim (fun h => by simpa using h) fun ⟨_, _, h⟩ => h.elim⟩⟩, ?_⟩
    · intro o ho
      refine ⟨⟨cur[o]'(by omega), ?_⟩, ?_⟩
      · simp [World.cell?, at_, hgg]
      · simp [World.frz?, at_, hgg]
    · intro row hr
      simp only [intsD, List.mem_map] at hr
      obtain ⟨_, _, rfl⟩ := hr
      rfl
    · intro m d hd
      rw [hfl, List.getElem?_map] at hd
      obtain ⟨z, hz, rfl⟩ := Option.map_eq_some_iff.1 hd
      refine ⟨.int .i64 z, ?_, .int _ _, fun _ _ h => h⟩
      have h1 : (cur.toList.take (l.length * 1))[m]? = some (.int .i64 z) := by rw [ht, List.getElem?_map, hz]; rfl
      have hml := (List.getElem?_eq_some_iff.1 hz).1
      rw [List.getElem?_take_of_lt (by omega)] at h1
      simp only [World.cell?, at_, hgg, Nat.zero_add]
      simpa using h1
    · rintro x y ⟨rfl, _, _⟩
      exact ⟨hg, (Array.getElem?_eq_some_iff.1 hgg).1⟩
def SweepR (r : GRack) (now : Int) (Fz : PSet) (w w' : World) (v u : Value) : Prop :=
  ∃ (Fz' S S2 : PSet), Own w' Fz' 2 v (.slc 6 (rWrap (keptG now r.fWraps))) S ∧ Own w' Fz' 1 u (.slc 1 (intsD (goneG now r.fWraps))) S2 ∧ (∀ x y, S x y → ¬ S2 x y) ∧ (∀ x y, S x y ∨ S2 x y → w.heap.size ≤ x ∧ x < w'.heap.size ∧ ¬ Fz' x y) ∧
    (∀ x y, Fz x y → Fz' x y) ∧ (∀ x y, Fz' x y → (Fz x y ∨ w.heap.size ≤ x) ∧ x < w'.heap.size) ∧ (w'.os = w.os ∧ w'.output = w.output ∧ w.heap.size ≤ w'.heap.size ∧ ∀ k, k < w.heap.size → w'.heap[k]? = w.heap[k]?)
set_option maxHeartbeats 4000000 in
set_option maxRecDepth 1000000 in
open Go.RowKit in
theorem sweep_walk {GG : GV} (r : GRack) (now : Int) (hc : r.cost ≤ 1048576) (hlen : r.fWraps.length ≤ 1048576) (w : World) (Fz : PSet) (a0 : Option Addr) (m0 c0 : Nat) (hG : ∀ b p, GG b = some p → (∀ o, Fz b o) ∧ ∃ ob, w.heap[b]? = some ob ∧ p ob) (hFz : ∀ b o, Fz b o → b < w.heap.size) (hv : Shr w Fz (.slice a0 m0 c0) (.slc 6 (rWrap r.fWraps))) :
    Calls PP 34 #[.agg #[.int .i64 r.fKey, .int .i64 r.fNext, .slice a0 m0 c0], .int .i64 now] w fun e w' => ∃ (a : Option Addr) (n c : Nat) (a' : Option Addr) (n' c' : Nat),
      e = .returned (.tuple #[.agg #[.int .i64 r.fKey, .int .i64 r.fNext, .slice a n c], .slice a' n' c']) ∧ SweepR r now Fz w w' (.slice a n c) (.slice a' n' c') := by
  obtain ⟨A, hA⟩ : ∃ A : Obj, A = .cells #[.int .i64 r.fKey, .int .i64 r.fNext, .slice a0 m0 c0] 28 := ⟨_, rfl⟩
  obtain ⟨B, hB⟩ : ∃ A : Obj, A = .cells #[.int .i64 now] 3 := ⟨_, rfl⟩
  obtain ⟨C, hC⟩ : ∃ A : Obj, A = .cells #[.int .i64 0, .int .i64 0, .slice none 0 0] 28 := ⟨_, rfl⟩
  obtain ⟨D, hD⟩ : ∃ A : Obj, A = .cells #[.slice none 0 0] 29 := ⟨_, rfl⟩
  have hb4 : ∀ k, k < w.heap.size → ((((w.alloc A).alloc B).alloc C).alloc D).heap[k]? = w.heap[k]? := fun k hk => by
    rw [heap_alloc_old _ _ (by simp; omega), heap_alloc_old _ _ (by simp; omega), heap_alloc_old _ _ (by simp; omega), heap_alloc_old _ _ hk]
  have hkF : Keeps w ((((w.alloc A).alloc B).alloc C).alloc D) Fz := fun b o h => keep_of_heap (hb4 b (hFz b o h)) o
  have hcl := clone_walk (GG := GG) r hc ((((w.alloc A).alloc B).alloc C).alloc D) Fz (.slice a0 m0 c0) (fun b p h => by
    obtain ⟨h1, ob, h2, h3⟩ := hG b p h
    exact ⟨h1, ob, (hb4 b (hFz b 0 (h1 0))).trans h2, h3⟩) (fun b o h => by have := hFz b o h; simp; omega) (hv.mono (fun b o h => (hkF b o h).1) fun _ _ h => h)
  have p1 : ((((w.alloc A).alloc B).alloc C).alloc D).heap[w.heap.size + 1]? = some (.cells #[.int .i64 now] 3 (0, 0)) := by
    rw [heap_alloc_old _ _ (by simp), heap_alloc_old _ _ (by simp), ← hB]
    show ((w.alloc A).heap.push B)[w.heap.size + 1]? = some B
    rw [show w.heap.size + 1 = (w.alloc A).heap.size by simp, Array.getElem?_push_size]
  have p2 : ((((w.alloc A).alloc B).alloc C).alloc D).heap[w.heap.size + 2]? = some (.cells #[.int .i64 0, .int .i64 0, .slice none 0 0] 28 (0, 0)) := by
    rw [heap_alloc_old _ _ (by simp), ← hC]
    show (((w.alloc A).alloc B).heap.push C)[w.heap.size + 2]? = some C
    rw [show w.heap.size + 2 = ((w.alloc A).alloc B).heap.size by simp, Array.getElem?_push_size]
  have p3 : ((((w.alloc A).alloc B).alloc C).alloc D).heap[w.heap.size + 3]? = some (.cells #[.slice none 0 0] 29 (0, 0)) := by
    rw [← hD]
    show ((((w.alloc A).alloc B).alloc C).heap.push D)[w.heap.size + 3]? = some D
    rw [show w.heap.size + 3 = (((w.alloc A).alloc B).alloc C).heap.size by simp, Array.getElem?_push_size]
  have sz4 : ((((w.alloc A).alloc B).alloc C).alloc D).heap.size = w.heap.size + 4 := by simp
  have os4 : ((((w.alloc A).alloc B).alloc C).alloc D).os = w.os ∧ ((((w.alloc A).alloc B).alloc C).alloc D).output = w.output := ⟨rfl, rfl⟩
  rw [hA, hB, hC, hD] at hcl
  unfold PP at hcl ⊢
  go_enter Tryd.func34, Tryd.ntmps34
  go_wp2_with (go_at_call 33; refine hcl.mono ?_)
  rintro e w5 ⟨a1, n1, c1, rfl, hR⟩
  rw [← hA, ← hB, ← hC, ← hD] at hR
  generalize ((((w.alloc A).alloc B).alloc C).alloc D) = w4 at *
  obtain ⟨Fz', S, o1, o2, o3, o4, o5, o6, o7, o8⟩ := hR
  obtain ⟨E, hE⟩ : ∃ A : Obj, A = .cells #[.int .i64 r.fKey, .int .i64 r.fNext, .slice a1 n1 c1] 28 := ⟨_, rfl⟩
  have hk6 : ∀ k, k < w5.heap.size → (w5.alloc E).heap[k]? = w5.heap[k]? := fun k hk => heap_alloc_old _ _ hk
  have hown6 : Own (w5.alloc E) Fz' 2 (.slice a1 n1 c1) (.slc 6 (rWrap r.fWraps)) S := o1.mono (fun _ _ h => h) (fun x y h => keep_of_heap (hk6 x (o4 x y h).2) y) 2 (fun x y h => keep_of_heap (hk6 x (o2 x y h).2.1) y)
  have hn6 : (w5.alloc E).cell? ⟨w.heap.size + 1, 0, none⟩ = some (.int .i64 now) := by
    have : (w5.alloc E).heap[w.heap.size + 1]? = some (.cells #[.int .i64 now] 3 (0, 0)) := by rw [hk6 _ (by omega), o8 _ (by omega)]; exact p1
    simp [World.cell?, this]
  have hi6 : IdsAt (w5.heap.size + 1) (w.heap.size + 3) [] (w5.alloc E) := ⟨.slice none 0 0, by rw [hk6 _ (by omega), o8 _ (by omega)]; exact p3, World.ownsRow_nil _ _ _ _⟩
  have hdf := df_own (w5.heap.size + 1) (w.heap.size + 1) (w.heap.size + 3) now r.fWraps (.slice a1 n1 c1) Fz' S (w5.alloc E) (by omega) (by omega) (by omega) (by simp) hn6 hown6 hi6 hlen (fun x y h => by have := o2 x y h; omega) (fun x y h => by
    have h1 := (o4 x y h).2
    rcases (o4 x y h).1 with h2 | h2
    · have := hFz x y h2; omega
    · omega) (fun x y h => (o2 x y h).2.2)
  have hdf : Calls PP 62 #[.slice a1 n1 c1, .func (.func 63) #[] #[.pointer (some ⟨w.heap.size + 1, 0, none⟩), .pointer (some ⟨w.heap.size + 1 + 1 + 1, 0, none⟩)]] (w5.alloc E) fun e w' => ∃ (a : Option Addr) (n c : Nat), e = .returned (.slice a n c) ∧
      DfR (w5.heap.size + 1) (w.heap.size + 3) now r.fWraps Fz' S (w5.alloc E) w' (.slice a n c) := hdf.mono (fun e w' ⟨a, n, c, S', h1, h2⟩ => ⟨a, n, c, h1, S', h2⟩)
  rw [hE] at hdf
  unfold PP at hdf
  go_wp2_with (go_at_call 62; refine hdf.mono ?_)
  rintro e w7 ⟨a2, n2, c2, rfl, hD7⟩
  rw [← hE] at hD7
  obtain ⟨S', d1, d2, ⟨v3, d3, d4⟩, d5, d6⟩ := hD7
  obtain ⟨⟨a3, n3, c3, rfl⟩, S3, d7, d8⟩ := ids_own (Fz := Fz') d4
  have hE7 : w7.heap[w5.heap.size]? = some (.cells #[.int .i64 r.fKey, .int .i64 r.fNext, .slice a1 n1 c1] 28 (0, 0)) := by
    rw [d5.block _ (by omega) (fun hx => by
      rcases hx with h | ⟨y, h⟩
      · omega
      · have := o2 _ _ h; omega), ← hE]
    show (w5.heap.push E)[w5.heap.size]? = some E
    rw [Array.getElem?_push_size]
  have hT7 : w7.heap[w.heap.size + 1 + 1]? = some (.cells #[.int .i64 0, .int .i64 0, .slice none 0 0] 28 (0, 0)) := by
    rw [d5.block _ (by omega) (fun hx => by
      rcases hx with h | ⟨y, h⟩
      · omega
      · have := o2 _ _ h; omega), hk6 _ (by omega), o8 _ (by omega)]
    exact p2
  have hI7 : w7.heap[w.heap.size + 1 + 1 + 1]? = some (.cells #[.slice a3 n3 c3] 29 (0, 0)) := d3
  have k2 : w7.cell? ⟨w5.heap.size, 2, none⟩ = some (.slice a1 n1 c1) := by simp [World.cell?, hE7]
  have kf : w7.frozen? ⟨w5.heap.size, 2, none⟩ = false := by simp [World.frozen?, hE7]
  have hE8 : (w7.setCell ⟨w5.heap.size, 2, none⟩ (.slice a2 n2 c2)).heap[w5.heap.size]? = some (.cells #[.int .i64 r.fKey, .int .i64 r.fNext, .slice a2 n2 c2] 28 (0, 0)) := by
    simp [World.setCell, Array.getElem?_modify, hE7]
  have hT8 : (w7.setCell ⟨w5.heap.size, 2, none⟩ (.slice a2 n2 c2)).heap[w.heap.size + 1 + 1]? = some (.cells #[.int .i64 0, .int .i64 0, .slice none 0 0] 28 (0, 0)) := by
    rw [setCell_heap (by show _ ≠ w5.heap.size; omega)]; exact hT7
  have hI8 : (w7.setCell ⟨w5.heap.size, 2, none⟩ (.slice a2 n2 c2)).heap[w.heap.size + 1 + 1 + 1]? = some (.cells #[.slice a3 n3 c3] 29 (0, 0)) := by
    rw [setCell_heap (by show _ ≠ w5.heap.size; omega)]; exact hI7
  go_wp2
  generalize hw8 : w7.setCell ⟨w5.heap.size, 2, none⟩ (.slice a2 n2 c2) = w8 at *
  have e0 : w8.cell? ⟨w5.heap.size, 0, none⟩ = some (.int .i64 r.fKey) := by simp [World.cell?, hE8]
  have e1 : w8.cell? ⟨w5.heap.size, 1, none⟩ = some (.int .i64 r.fNext) := by simp [World.cell?, hE8]
  have e2 : w8.cell? ⟨w5.heap.size, 2, none⟩ = some (.slice a2 n2 c2) := by simp [World.cell?, hE8]
  have e3 : w8.cell? ⟨w.heap.size + 1 + 1 + 1, 0, none⟩ = some (.slice a3 n3 c3) := by simp [World.cell?, hI8]
  have f0 : w8.cell? ⟨w.heap.size + 1 + 1, 0, none⟩ = some (.int .i64 0) := by simp [World.cell?, hT8]
  have f1 : w8.cell? ⟨w.heap.size + 1 + 1, 1, none⟩ = some (.int .i64 0) := by simp [World.cell?, hT8]
  have f2 : w8.cell? ⟨w.heap.size + 1 + 1, 2, none⟩ = some (.slice none 0 0) := by simp [World.cell?, hT8]
  have z0 : w8.frozen? ⟨w.heap.size + 1 + 1, 0, none⟩ = false := by simp [World.frozen?, hT8]
  have z1 : w8.frozen? ⟨w.heap.size + 1 + 1, 1, none⟩ = false := by simp [World.frozen?, hT8]
  have z2 : w8.frozen? ⟨w.heap.size + 1 + 1, 2, none⟩ = false := by simp [World.frozen?, hT8]
  go_region
  all_goals (try go_wp2)
  all_goals (
    obtain ⟨w9, hw9⟩ : ∃ w9, w9 = (((w8.setCell ⟨w.heap.size + 1 + 1, 0, none⟩ (.int .i64 r.fKey)).setCell ⟨w.heap.size + 1 + 1, 1, none⟩ (.int .i64 r.fNext)).setCell ⟨w.heap.size + 1 + 1, 2, none⟩ (.slice a2 n2 c2)).drew := ⟨_, rfl⟩
    rw [← hw9]
    have hT9 : w9.heap[w.heap.size + 1 + 1]? = some (.cells #[.int .i64 r.fKey, .int .i64 r.fNext, .slice a2 n2 c2] 28 (0, 0)) := by
      rw [hw9]
      show (((w8.setCell ⟨w.heap.size + 1 + 1, 0, none⟩ (.int .i64 r.fKey)).setCell ⟨w.heap.size + 1 + 1, 1, none⟩ (.int .i64 r.fNext)).setCell ⟨w.heap.size + 1 + 1, 2, none⟩ (.slice a2 n2 c2)).heap[w.heap.size + 1 + 1]? = _
      simp [World.setCell, Array.getElem?_modify, hT8]
    have hk9 : ∀ k, k ≠ w.heap.size + 1 + 1 → k ≠ w5.heap.size → w9.heap[k]? = w7.heap[k]? := by
      intro k h1 h2
      rw [hw9, ← hw8]
      show ((((w7.setCell ⟨w5.heap.size, 2, none⟩ (.slice a2 n2 c2)).setCell ⟨w.heap.size + 1 + 1, 0, none⟩ (.int .i64 r.fKey)).setCell ⟨w.heap.size + 1 + 1, 1, none⟩ (.int .i64 r.fNext)).setCell ⟨w.heap.size + 1 + 1, 2, none⟩ (.slice a2 n2 c2)).heap[k]? = _
      rw [setCell_heap h1, setCell_heap h1, setCell_heap h1, setCell_heap h2]
    have hs9 : w9.heap.size = w7.heap.size ∧ w9.os = w7.os ∧ w9.output = w7.output := by
      rw [hw9, ← hw8]
      refine ⟨?_, rfl, rfl⟩
      show ((((w7.setCell ⟨w5.heap.size, 2, none⟩ (.slice a2 n2 c2)).setCell ⟨w.heap.size + 1 + 1, 0, none⟩ (.int .i64 r.fKey)).setCell ⟨w.heap.size + 1 + 1, 1, none⟩ (.int .i64 r.fNext)).setCell ⟨w.heap.size + 1 + 1, 2, none⟩ (.slice a2 n2 c2)).heap.size = _
      simp [World.setCell]
    have t0 : w9.cell? ⟨w.heap.size + 1 + 1, 0, none⟩ = some (.int .i64 r.fKey) := by simp [World.cell?, hT9]
    have t1 : w9.cell? ⟨w.heap.size + 1 + 1, 1, none⟩ = some (.int .i64 r.fNext) := by simp [World.cell?, hT9]
    have t2 : w9.cell? ⟨w.heap.size + 1 + 1, 2, none⟩ = some (.slice a2 n2 c2) := by simp [World.cell?, hT9]
    clear hw9 hcl
    refine bodyPost_ret (v := .tuple #[.agg #[.int .i64 r.fKey, .int .i64 r.fNext, .slice a2 n2 c2], .slice a3 n3 c3]) ?_ rfl ?_
    · rw [results_cell_tmp (p := 4) (u := 5) (ty := 28) rfl]
      simp [go_sem, t0, t1, t2]
    · have hsz7 := d5.size
      simp at hsz7
      have hSx : ∀ x y, S' x y → w.heap.size + 4 ≤ x ∧ x < w5.heap.size ∧ ¬ Fz' x y := fun x y h => by have := o2 x y (d2 x y h); exact ⟨by omega, this.2.1, this.2.2⟩
      have hFx : ∀ x y, Fz' x y → (x < w.heap.size ∨ w.heap.size + 4 ≤ x) ∧ x < w5.heap.size := fun x y h => by
        obtain ⟨h1, h2⟩ := o4 x y h
        rcases h1 with h1 | h1
        · exact ⟨.inl (hFz x y h1), h2⟩
        · exact ⟨.inr (by omega), h2⟩
      have kF : Keeps w7 w9 Fz' := fun x y h => by have := hFx x y h; exact keep_of_heap (hk9 x (by omega) (by omega)) y
      refine ⟨a2, n2, c2, a3, n3, c3, rfl, Fz', S', S3, d1.mono (fun _ _ h => h) kF 2 (fun x y h => by have := hSx x y h; exact keep_of_heap (hk9 x (by omega) (by omega)) y), d7.mono (fun _ _ h => h) kF 1 (fun x y h => by have := d8 x y h; exact keep_of_heap (hk9 x (by omega) (by omega)) y), ?_, ?_, o3, ?_, ?_, ?_, ?_, ?_⟩
      · intro x y h1 h2
        have := hSx x y h1
        have := d8 x y h2
        omega
      · rintro x y (h | h)
        · have := hSx x y h
          exact ⟨by omega, by omega, this.2.2⟩
        · have := d8 x y h
          exact ⟨by omega, by omega, fun hf => by have := hFx x y hf; omega⟩
      · intro x y h
        obtain ⟨h1, h2⟩ := o4 x y h
        refine ⟨?_, by omega⟩
        rcases h1 with h1 | h1
        · exact .inl h1
        · exact .inr (by omega)
      · rw [hs9.2.1, d5.os]; exact o5.trans os4.1
      · rw [hs9.2.2, d5.output]; exact o6.trans os4.2
      · omega
      · intro k hk
        rw [hk9 k (by omega) (by omega), d5.block k (by omega) (fun hx => by
          rcases hx with h | ⟨y, h⟩
          · omega
          · have := o2 _ _ h; omega), hk6 k (by omega), o8 k (by omega)]
        exact hb4 k hk)
def sweepT (r : GRack) (now : Int) : GRack × List Int := if rackOk r = true then ({ fKey := r.fKey, fNext := r.fNext, fWraps := keptG now r.fWraps }, goneG now r.fWraps) else (r, [])
theorem i_sweepWraps_ok {GG : GV} (r : GRack) (now : Int) (hc : r.cost ≤ 1048576) : Valid PP GG 34 [.agg r.c, .d (.int .i64 now)] (.tup [.agg (GRack.mk r.fKey r.fNext (keptG now r.fWraps)).o, .own 0 1 (intsD (goneG now r.fWraps))]) [none, none] := by
  have hco : r.cost = r.fWraps.length + sumBy GWrap.cost r.fWraps := rfl
  refine ⟨⟨Tryd.f34, Tryd.func34, by kernel_rfl, by kernel_rfl⟩, fun w args Fz U hG hFz hRC hap => ?_⟩
  obtain ⟨hl, hRC, _⟩ := hRC
  have q0 := hRC 0 _ rfl
  have q1 := hRC 1 _ rfl
  have e : args = #[args.getD 0 Go.undef, args.getD 1 Go.undef] := by
    apply Array.ext
    · simpa using hl
    · intro i h1 h2
      simp at hl h2
      match i, h2 with
      | 0, _ => simp [hl]
      | 1, _ => simp [hl]
  generalize args.getD 0 Go.undef = v at e q0
  generalize args.getD 1 Go.undef = u at e q1
  have hU : ∀ x y, ¬ ∃ i, i < 2 ∧ U i x y := by
    rintro x y ⟨i, hi, h⟩
    match i, hi with
    | 0, _ =>
      cases q0 with
      | agg _ vs T _ hl h1 hs hd hS =>
        obtain ⟨m, hm, ht⟩ := (hS x y).1 h
        match m, hm with
        | 0, _ => have := hs 0 _ rfl; generalize vs.getD 0 Go.undef = z at this; cases this with | d _ _ _ _ hn => exact hn x y ht
        | 1, _ => have := hs 1 _ rfl; generalize vs.getD 1 Go.undef = z at this; cases this with | d _ _ _ _ hn => exact hn x y ht
        | 2, _ => have := hs 2 _ rfl; generalize vs.getD 2 Go.undef = z at this; cases this with | d _ _ _ _ hn => exact hn x y ht
    | 1, _ => cases q1 with | d _ _ _ _ hn => exact hn x y h
  generalize U 0 = S0 at q0
  generalize U 1 = S1 at q1
  cases q1 with | d _ _ _ q1 _ => ?_
  cases q1
  cases q0 with
  | agg _ vs T _ hl2 h1 hs hd hS =>
    have r0 := hs 0 _ rfl
    have r1 := hs 1 _ rfl
    have r2 := hs 2 _ rfl
    have e1 : vs = #[vs.getD 0 Go.undef, vs.getD 1 Go.undef, vs.getD 2 Go.undef] := by
      apply Array.ext
      · simpa using hl2
      · intro i h1 h2
        simp at hl2 h2
        match i, h2 with
        | 0, _ => simp [hl2]
        | 1, _ => simp [hl2]
        | 2, _ => simp [hl2]
    generalize vs.getD 0 Go.undef = v0 at *
    generalize vs.getD 1 Go.undef = v1 at *
    generalize vs.getD 2 Go.undef = v2 at *
    generalize T 0 = T0 at r0
    generalize T 1 = T1 at r1
    generalize T 2 = T2 at r2
    cases r0 with | d _ _ _ r0 _ => ?_
    cases r1 with | d _ _ _ r1 _ => ?_
    cases r2 with | d _ _ _ r2 _ => ?_
    cases r0
    cases r1
    obtain ⟨a0, m0, c0, rfl⟩ : ∃ a m c, v2 = .slice a m c := by
      rcases shr_slc_inv r2 with ⟨a, cap, rfl, _⟩ | ⟨b, off, cap, _, rfl, _⟩
      · exact ⟨_, _, _, rfl⟩
      · exact ⟨_, _, _, rfl⟩
    rw [e, e1]
    refine (sweep_walk (GG := GG) r now hc (by omega) w Fz a0 m0 c0 hG hFz r2).mono ?_
    rintro e' w' ⟨a, n, c, a', n', c', rfl, Fz', S, S2, o1, o2, o3, o4, o5, o6, o7, o8, o9, o10⟩
    refine ⟨_, Fz', fun i => if i = 0 then (fun x y => S x y ∨ S2 x y) else fun _ _ => False, rfl, ⟨o7, o8⟩, o9, fun b hb _ => o10 b hb, fun b o hb _ => keep_of_heap (o10 b hb) o, o5, fun b o h => (o6 b o h).2, fun b o h => ?_, ?_, fun m c hm => ?_, ?_, ?_⟩
    · rcases (o6 b o h).1 with h | h
      · exact .inl h
      · exact .inr (.inr h)
    · refine .tup _ _ (fun m => match m with | 0 => S | 1 => S2 | _ => fun _ _ => False) _ rfl (fun m c hm => ?_) (fun i j hi hj hij x y h1 h2 => ?_) (fun x y => ⟨fun h => ?_, fun ⟨m, hm, h⟩ => ?_⟩)
      · match m, hm with
        | 0, hm =>
          cases hm
          refine .agg _ _ (fun m => match m with | 2 => S | _ => fun _ _ => False) _ rfl (fun m c hm => ?_) (fun m c hm => ?_) (fun i j hi hj hij x y h1 h2 => ?_) (fun x y => ⟨fun h => ⟨2, by simp, h⟩, fun ⟨m, hm, h⟩ => ?_⟩)
          · match m, hm with
            | 0, _ => rfl
            | 1, _ => rfl
            | 2, _ => rfl
            | m + 3, hm => simp at hm
          · match m, hm with
            | 0, hm => cases hm; exact .d _ _ _ (.int _ _) fun _ _ h => h
            | 1, hm => cases hm; exact .d _ _ _ (.int _ _) fun _ _ h => h
            | 2, hm => cases hm; exact .own _ _ _ _ _ o1
            | m + 3, hm => simp at hm
          · match i, j, hi, hj with
            | 2, 2, _, _ => exact hij rfl
            | 0, _, _, _ => exact h1
            | 1, _, _, _ => exact h1
            | 2, 0, _, _ => exact h2
            | 2, 1, _, _ => exact h2
          · match m, hm with
            | 2, _ => exact h
            | 0, _ => exact h.elim
            | 1, _ => exact h.elim
        | 1, hm => cases hm; exact .own _ _ _ _ _ o2
        | m + 2, hm => simp at hm
      · match i, j, hi, hj with
        | 0, 0, _, _ => exact hij rfl
        | 1, 1, _, _ => exact hij rfl
        | 0, 1, _, _ => exact o3 x y h1 h2
        | 1, 0, _, _ => exact o3 x y h2 h1
      · rcases (show S x y ∨ S2 x y from h) with h | h
        · exact ⟨0, by simp, h⟩
        · exact ⟨1, by simp, h⟩
      · match m, hm with
        | 0, _ => exact .inl h
        | 1, _ => exact .inr h
    · match m, hm with
      | 0, hm => cases hm
      | 1, hm => cases hm
      | m + 2, hm => simp at hm
    · intro i j hij x y h1 h2
      by_cases h : i = 0
      · subst h
        rw [if_neg (by omega)] at h2
        exact h2
      · simp only [h, if_false] at h1
    · intro i x y h
      by_cases h0 : i = 0
      · subst h0
        obtain ⟨p1, p2, p3⟩ := o4 x y h
        exact ⟨.inr p1, p3, p2⟩
      · simp only [h0, if_false] at h
theorem i_SweepWraps_ok [MaxL GG] (r : GRack) (now : Int) (hc : r.cost ≤ 1048576) : Valid PP GG F_I_SweepWraps [.agg r.c, .d (.int .i64 now)] (.tup [.agg (sweepT r now).1.o, .own 0 1 (intsD (sweepT r now).2)]) [none, none] := by
  refine v_I_SweepWraps [.agg (sweepT r now).1.o, .own 0 1 (intsD (sweepT r now).2)] rfl rfl ?_
  have cr := isRack_ok (GG := GG) r hc
  have cc := cloneRack_ok (GG := GG) r hc
  have cs := i_sweepWraps_ok (GG := GG) r now hc
  have hind := ind_rWrap (keptG now r.fWraps)
  have hind2 := ind_rWrap r.fWraps
  obtain ⟨t, ht⟩ : ∃ t, sweepT r now = t := ⟨_, rfl⟩
  rw [ht]
  unfold sweepT at ht
  cases hb : rackOk r with
  | true =>
    rw [hb] at cr ht
    rw [if_pos rfl] at ht
    subst ht
    repeat' (first | refine W_seq ?_ | refine W_skip ?_ | refine W_block ?_ | refine W_exit ?_ | refine pick_pos rfl ?_ | refine pick_neg rfl ?_ | ((first | refine W_regP fun K hK => ?_ | refine W_regPD fun K hK => ?_ | refine W_ret ?_ | with_reducible refine callQ (cr) ?_ | with_reducible refine callQ (cs) ?_); simp [Fin]) | (with_reducible refine hK _ ?_; clear hK K) | (with_reducible refine goL_split (fun h => ?_) (fun h => ?_) <;> first | (exfalso; simp at h; first | done | omega | contradiction) | ((try simp at h); simp)) | with_reducible refine And.intro ?_ ?_ | with_reducible exact okay_rfl rfl | with_reducible assumption | (refine W_cond rfl (fun h => ?_) (fun h => ?_) <;> first | (exfalso; simp at h; first | done | omega | contradiction) | (exfalso; simp_all; done) | (try simp at h)) | omega)
  | false =>
    rw [hb] at cr ht
    rw [if_neg (by simp)] at ht
    subst ht
    repeat' (first | refine W_seq ?_ | refine W_skip ?_ | refine W_block ?_ | refine W_exit ?_ | refine pick_pos rfl ?_ | refine pick_neg rfl ?_ | ((first | refine W_regP fun K hK => ?_ | refine W_regPD fun K hK => ?_ | refine W_ret ?_ | with_reducible refine callQ (cr) ?_ | with_reducible refine callQ (cc) ?_); simp [Fin, intsD]) | (with_reducible refine hK _ ?_; clear hK K) | (with_reducible refine goL_split (fun h => ?_) (fun h => ?_) <;> first | (exfalso; simp at h; first | done | omega | contradiction) | ((try simp at h); simp [intsD])) | with_reducible refine And.intro ?_ ?_ | with_reducible exact okay_rfl rfl | with_reducible assumption | (refine W_cond rfl (fun h => ?_) (fun h => ?_) <;> first | (exfalso; simp at h; first | done | omega | contradiction) | (exfalso; simp_all; done) | (try simp at h)) | omega)
theorem sumBy_filter_le {α : Type} (f : α → Nat) (p : α → Bool) (l : List α) : sumBy f (l.filter p) ≤ sumBy f l := by
  induction l with
  | nil => simp [sumBy]
  | cons x l ih =>
    cases h : p x with
    | true => simp only [List.filter_cons, h, if_true, sumBy]; omega
    | false => simp only [List.filter_cons, h, sumBy, Bool.false_eq_true, if_false]; omega
theorem sweepT_cost (r : GRack) (now : Int) : (sweepT r now).1.cost ≤ r.cost ∧ (sweepT r now).2.length ≤ r.fWraps.length := by
  unfold sweepT
  by_cases h : rackOk r = true
  · rw [if_pos h]
    have h1 := sumBy_filter_le GWrap.cost (fun x => !endedG now x) r.fWraps
    have h2 := List.length_filter_le (fun x => !endedG now x) r.fWraps
    have h3 := List.length_filter_le (endedG now) r.fWraps
    refine ⟨?_, by simpa [goneG] using h3⟩
    show (keptG now r.fWraps).length + sumBy GWrap.cost (keptG now r.fWraps) ≤ r.fWraps.length + sumBy GWrap.cost r.fWraps
    unfold keptG
    omega
  · rw [if_neg h]
    exact ⟨Nat.le_refl _, by simp⟩
theorem mask_mask (k n : Int) (a : List UInt8) : mask k n (mask k n a) = a := by
  have hl := mask_len k n a
  apply List.ext_getElem?
  intro i
  cases hx : a[i]? with
  | none =>
    have h1 : (mask k n (mask k n a)).length = a.length := by rw [mask_len, mask_len]
    rw [List.getElem?_eq_none_iff] at hx ⊢
    omega
  | some x =>
    have hi := (List.getElem?_eq_some_iff.1 hx).1
    have hy := List.getElem?_eq_getElem (l := strm k n a.length) (i := i) (by rw [strm_len]; exact hi)
    generalize (strm k n a.length)[i]'_ = y at hy
    have h1 := mask_get hx hy
    have h2 := mask_get (k := k) (n := n) h1 (by rw [hl]; exact hy)
    rw [h2]
    congr 1
    rw [UInt8.xor_assoc, UInt8.xor_self, UInt8.xor_zero]
theorem open_seal {k n : Int} {a : List UInt8} (hk : keyB k = true) (hn : keyB n = true) (ha : a.length ≤ 2000) : openR k (sealV k n a) = some a := by
  unfold openR sealV
  rw [if_pos (show _ ∧ _ ∧ _ ∧ _ from ⟨hk, hn, by rw [mask_len]; exact ha, rfl⟩), mask_mask]
theorem keyB_id {n : Int} (h1 : 0 ≤ n) (h2 : n ≤ 1000000000) : keyB n = true := by
  have h3 : n ≤ 1099511627776 := by omega
  simp [keyB, inB, h1, h3]
theorem putOk_iff {r : GRack} {kind plain : List UInt8} {now ttl : Int} (h : putOk r kind plain now ttl = true) :
    rackOk r = true ∧ pathOk kind = true ∧ plain.length ≤ 2000 ∧ (0 ≤ now ∧ now ≤ 1000000000) ∧ (1 ≤ ttl ∧ ttl ≤ 1000000000) ∧ now + ttl ≤ 1000000000 ∧ r.fNext ≠ 1000000000 := by
  simp only [putOk, Bool.and_eq_true, decide_eq_true_eq, Bool.not_eq_true', beq_eq_false_iff_ne] at h
  obtain ⟨⟨⟨⟨⟨⟨h1, h2⟩, h3⟩, h4⟩, h5⟩, h6⟩, h7⟩ := h
  exact ⟨h1, h2, h3, inB_true h4, inB_true h5, h6, h7⟩
theorem rack_next {r : GRack} (h : rackOk r = true) : (1 ≤ r.fNext ∧ r.fNext ≤ 1000000000) ∧ keyB r.fKey = true ∧ ∀ x, x ∈ r.fWraps → 1 ≤ x.fId ∧ x.fId ≤ r.fNext - 1 := by
  obtain ⟨h1, h2, h3, h4, h5⟩ := (rackOk_iff r).1 h
  refine ⟨inB_true h2, h1, fun x hx => ?_⟩
  have := h4 x hx
  simp only [wrapOk, Bool.and_eq_true] at this
  exact inB_true this.1.1
theorem inB_of {x lo hi : Int} (h1 : lo ≤ x) (h2 : x ≤ hi) : inB x lo hi = true := by simp [inB, h1, h2]
theorem rackOk_putDone {r : GRack} {kind plain : List UInt8} {now ttl : Int} (h : putOk r kind plain now ttl = true) (h60 : r.fWraps.length ≠ 60) : rackOk (putDone r kind plain now ttl) = true := by
  obtain ⟨h1, h2, h3, h4, h5, h6, h7⟩ := putOk_iff h
  obtain ⟨a1, a2, a3, a4, a5⟩ := (rackOk_iff r).1 h1
  obtain ⟨b1, b2, b3⟩ := rack_next h1
  refine (rackOk_iff _).2 ⟨a1, inB_of (by show 1 ≤ r.fNext + 1; omega) (by show r.fNext + 1 ≤ _; omega), by show (r.fWraps ++ [_]).length ≤ 60; simp; omega, fun x hx => ?_, ?_⟩
  · have hx : x ∈ r.fWraps ++ [{ fId := r.fNext, fEnds := now + ttl, fKind := kind, fBox := sealV r.fKey r.fNext plain }] := hx
    show wrapOk (r.fNext + 1) x = true
    rcases List.mem_append.1 hx with hx | hx
    · have h := a4 x hx
      have hb := b3 x hx
      simp only [wrapOk, Bool.and_eq_true] at h ⊢
      exact ⟨⟨inB_of hb.1 (by omega), h.1.2⟩, h.2⟩
    · simp at hx; subst hx
      simp only [wrapOk, Bool.and_eq_true]
      exact ⟨⟨inB_of (by omega) (by omega), inB_of (by omega) (by omega)⟩, h2⟩
  · show (r.fWraps ++ [_]).Pairwise _
    rw [List.pairwise_append]
    refine ⟨a5, List.pairwise_singleton _ _, fun x hx y hy => ?_⟩
    simp at hy; subst hy
    have := b3 x hx
    show x.fId < r.fNext
    omega
theorem find_last {l : List GWrap} {id : Int} {w : GWrap} (h : ∀ x, x ∈ l → x.fId ≠ id) (hw : w.fId = id) : (l ++ [w]).find? (fun x => x.fId == id) = some w := by
  rw [List.find?_append]
  have : l.find? (fun x => x.fId == id) = none := by
    rw [List.find?_eq_none]
    intro x hx
    simp [h x hx]
  rw [this]
  simp [hw]
theorem open_put {r : GRack} {kind plain : List UInt8} {now ttl : Int} (h : putOk r kind plain now ttl = true) (h60 : r.fWraps.length ≠ 60) :
    (putDone r kind plain now ttl).fWraps.find? (fun x => x.fId == r.fNext) = some { fId := r.fNext, fEnds := now + ttl, fKind := kind, fBox := sealV r.fKey r.fNext plain } ∧
    openT (putDone r kind plain now ttl) r.fNext now = (lessR (putDone r kind plain now ttl) r.fNext, plain, 0) ∧
    openT (putDone r kind plain now ttl) r.fNext (now + ttl) = (lessR (putDone r kind plain now ttl) r.fNext, [], 3) := by
  obtain ⟨h1, h2, h3, h4, h5, h6, h7⟩ := putOk_iff h
  obtain ⟨b1, b2, b3⟩ := rack_next h1
  have hN := rackOk_putDone h h60
  have hf := find_last (l := r.fWraps) (id := r.fNext) (w := { fId := r.fNext, fEnds := now + ttl, fKind := kind, fBox := sealV r.fKey r.fNext plain }) (fun x hx => by have := b3 x hx; omega) rfl
  have hf' : (putDone r kind plain now ttl).fWraps.find? (fun x => x.fId == r.fNext) = some { fId := r.fNext, fEnds := now + ttl, fKind := kind, fBox := sealV r.fKey r.fNext plain } := hf
  have ho : openR (putDone r kind plain now ttl).fKey (sealV r.fKey r.fNext plain) = some plain := open_seal b2 (keyB_id (by omega) (by omega)) h3
  refine ⟨hf', ?_, ?_⟩
  · unfold openT
    rw [hN, inB_of h4.1 h4.2, hf']
    simp only [Bool.true_eq_false, or_self, if_false]
    rw [if_neg (by omega), ho]
  · unfold openT
    rw [hN, inB_of (by omega) h6, hf']
    simp only [Bool.true_eq_false, or_self, if_false]
    rw [if_pos (Int.le_refl _)]
theorem find_less (r : GRack) (id : Int) : (lessR r id).fWraps.find? (fun x => x.fId == id) = none := by
  rw [List.find?_eq_none]
  intro x hx
  have hx : x ∈ lessW id r.fWraps := hx
  unfold lessW at hx
  have := (List.mem_filter.1 hx).2
  simpa using this
theorem open_none {r : GRack} {id now : Int} (h : rackOk r = true) (hn : 0 ≤ now ∧ now ≤ 1000000000) (hf : r.fWraps.find? (fun x => x.fId == id) = none) : (openT r id now).2.2 = 2 := by
  unfold openT
  rw [h, inB_of hn.1 hn.2, hf]
  simp
theorem rekey_mem {k key : Int} : ∀ {l : List GWrap} {y : GWrap}, y ∈ rekeyW k key l → ∃ x, x ∈ l ∧ y.fId = x.fId ∧ y.fEnds = x.fEnds ∧ y.fKind = x.fKind := by
  intro l
  induction l with
  | nil => intro y h; cases h
  | cons x l ih =>
    intro y h
    unfold rekeyW at h
    rcases List.mem_append.1 h with h | h
    · cases ho : openR k x.fBox with
      | none => rw [ho] at h; cases h
      | some o =>
        rw [ho] at h
        simp at h
        subst h
        exact ⟨x, List.mem_cons_self, rfl, rfl, rfl⟩
    · obtain ⟨z, hz, e⟩ := ih h
      exact ⟨z, List.mem_cons_of_mem _ hz, e⟩
theorem rekey_len (k key : Int) (l : List GWrap) : (rekeyW k key l).length ≤ l.length := by
  induction l with
  | nil => exact Nat.le_refl _
  | cons x l ih =>
    unfold rekeyW
    rw [List.length_append]
    cases openR k x.fBox <;> simp <;> omega
theorem rekey_pair (k key : Int) {l : List GWrap} (h : l.Pairwise fun y x => y.fId < x.fId) : (rekeyW k key l).Pairwise fun y x => y.fId < x.fId := by
  induction l with
  | nil => exact List.Pairwise.nil
  | cons x l ih =>
    rw [List.pairwise_cons] at h
    unfold rekeyW
    rw [List.pairwise_append]
    refine ⟨?_, ih h.2, fun a ha b hb => ?_⟩
    · cases openR k x.fBox with
      | none => exact List.Pairwise.nil
      | some o => exact List.pairwise_singleton _ _
    · obtain ⟨z, hz, e, _⟩ := rekey_mem hb
      have hax : a.fId = x.fId := by
        cases ho : openR k x.fBox with
        | none => rw [ho] at ha; cases ha
        | some o => rw [ho] at ha; simp at ha; subst ha; rfl
      rw [hax, e]
      exact h.1 z hz
theorem rackOk_rekey {r : GRack} (h : rackOk r = true) {key : Int} (hk : keyB key = true) : rackOk (rekeyR r key) = true := by
  obtain ⟨a1, a2, a3, a4, a5⟩ := (rackOk_iff r).1 h
  unfold rekeyR
  rw [if_pos ⟨h, hk⟩]
  refine (rackOk_iff _).2 ⟨hk, a2, Nat.le_trans (rekey_len _ _ _) a3, fun y hy => ?_, rekey_pair _ _ a5⟩
  obtain ⟨x, hx, e1, e2, e3⟩ := rekey_mem hy
  have := a4 x hx
  simp only [wrapOk] at this ⊢
  rw [e1, e2, e3]
  exact this
theorem rackOk_swept {r : GRack} (h : rackOk r = true) (now : Int) : rackOk { fKey := r.fKey, fNext := r.fNext, fWraps := keptG now r.fWraps } = true := by
  obtain ⟨a1, a2, a3, a4, a5⟩ := (rackOk_iff r).1 h
  refine (rackOk_iff _).2 ⟨a1, a2, Nat.le_trans (List.length_filter_le _ _) a3, fun y hy => a4 y (List.mem_filter.1 hy).1, List.Pairwise.filter _ a5⟩
theorem idx_hit {l : List GWrap} {id : Int} {w : GWrap} (h : l.find? (fun x => x.fId == id) = some w) : ∃ i : Nat, idxV (fun x : GWrap => x.fId == id) l = i ∧ l[i]? = some w := by
  rcases idxV_find (fun x : GWrap => x.fId == id) l with ⟨e1, e2⟩ | ⟨i, x, e1, e2, e3, e4⟩
  · rw [h] at e2; cases e2
  · rw [h] at e4; cases e4; exact ⟨i, e1, e2⟩
theorem peek_put {r : GRack} {kind plain : List UInt8} {now ttl : Int} (h : putOk r kind plain now ttl = true) (h60 : r.fWraps.length ≠ 60) :
    peekK (putDone r kind plain now ttl) r.fNext = kind ∧ peekE (putDone r kind plain now ttl) r.fNext = now + ttl ∧ peekC (putDone r kind plain now ttl) r.fNext = 0 := by
  have hN := rackOk_putDone h h60
  obtain ⟨i, e1, e2⟩ := idx_hit (open_put h h60).1
  unfold peekK peekE peekC
  rw [if_pos hN, if_pos hN, if_pos hN, e1]
  have hi : ¬ ((i : Int) < 0) := by omega
  simp only [Int.toNat_natCast, e2, hi, if_false]
  exact ⟨trivial, trivial, trivial⟩
theorem again_put {r : GRack} {kind plain : List UInt8} {now ttl key : Int} (h : putOk r kind plain now ttl = true) (h60 : r.fWraps.length ≠ 60) (hk : keyB key = true) :
    rekeyB (putDone r kind plain now ttl) key = true ∧
    ((againT (rekeyR (putDone r kind plain now ttl) key) r.fNext now).2.2 = 1 → ¬ r.fNext + 1 < 1000000000) ∧
    ((againT (rekeyR (putDone r kind plain now ttl) key) r.fNext now).2.2 = 0 → r.fNext < (againT (rekeyR (putDone r kind plain now ttl) key) r.fNext now).2.1 ∧
      (openT (againT (rekeyR (putDone r kind plain now ttl) key) r.fNext now).1 (againT (rekeyR (putDone r kind plain now ttl) key) r.fNext now).2.1 now).2 = (plain, 0)) := by
  obtain ⟨h1, h2, h3, h4, h5, h6, h7⟩ := putOk_iff h
  obtain ⟨b1, b2, b3⟩ := rack_next h1
  have hN := rackOk_putDone h h60
  have hM := rackOk_rekey hN hk
  have hMe : rekeyR (putDone r kind plain now ttl) key = { fKey := key, fNext := r.fNext + 1, fWraps := rekeyW r.fKey key r.fWraps ++ [{ fId := r.fNext, fEnds := now + ttl, fKind := kind, fBox := sealV key r.fNext plain }] } := by
    unfold rekeyR
    rw [if_pos ⟨hN, hk⟩]
    show GRack.mk key (r.fNext + 1) (rekeyW r.fKey key (r.fWraps ++ [_])) = _
    rw [rekeyW_app]
    congr 2
    show (match openR r.fKey (sealV r.fKey r.fNext plain) with | some o => [({ fId := r.fNext, fEnds := now + ttl, fKind := kind, fBox := sealV key r.fNext o } : GWrap)] | none => []) ++ [] = _
    rw [open_seal b2 (keyB_id (by omega) (by omega)) h3]
    rfl
  have hf : (rekeyR (putDone r kind plain now ttl) key).fWraps.find? (fun x => x.fId == r.fNext) = some { fId := r.fNext, fEnds := now + ttl, fKind := kind, fBox := sealV key r.fNext plain } := by
    rw [hMe]
    refine find_last (fun x hx => ?_) rfl
    obtain ⟨z, hz, e, _⟩ := rekey_mem hx
    have := b3 z hz
    omega
  have hlen : (lessR (rekeyR (putDone r kind plain now ttl) key) r.fNext).fWraps.length ≠ 60 := by
    show (lessW r.fNext (rekeyR (putDone r kind plain now ttl) key).fWraps).length ≠ 60
    rw [hMe]
    show (lessW r.fNext (rekeyW r.fKey key r.fWraps ++ [_])).length ≠ 60
    unfold lessW
    rw [List.filter_append]
    have e0 : ([{ fId := r.fNext, fEnds := now + ttl, fKind := kind, fBox := sealV key r.fNext plain }] : List GWrap).filter (fun x => !(x.fId == r.fNext)) = [] := by simp
    rw [e0, List.append_nil]
    have e1 := List.length_filter_le (fun x : GWrap => !(x.fId == r.fNext)) (rekeyW r.fKey key r.fWraps)
    have e2 := rekey_len r.fKey key r.fWraps
    have e3 := ((rackOk_iff r).1 h1).2.2.1
    omega
  have hop : openT (rekeyR (putDone r kind plain now ttl) key) r.fNext now = (lessR (rekeyR (putDone r kind plain now ttl) key) r.fNext, plain, 0) := by
    have hkey : (rekeyR (putDone r kind plain now ttl) key).fKey = key := by rw [hMe]
    unfold openT
    rw [hM, inB_of h4.1 h4.2, hf, hkey]
    simp only [Bool.true_eq_false, or_self, if_false]
    rw [if_neg (by omega), open_seal hk (keyB_id (by omega) (by omega)) h3]
  have hL := rackOk_less hM r.fNext
  have hLn : (lessR (rekeyR (putDone r kind plain now ttl) key) r.fNext).fNext = r.fNext + 1 := by
    show (rekeyR (putDone r kind plain now ttl) key).fNext = _
    rw [hMe]
  have hag : againT (rekeyR (putDone r kind plain now ttl) key) r.fNext now = (putR (lessR (rekeyR (putDone r kind plain now ttl) key) r.fNext) kind plain now ttl, putI (lessR (rekeyR (putDone r kind plain now ttl) key) r.fNext) kind plain now ttl, putC (lessR (rekeyR (putDone r kind plain now ttl) key) r.fNext) kind plain now ttl) := by
    unfold againT
    rw [hop, hf]
    simp only [if_true]
    rw [show now + ttl - now = ttl by omega]
  refine ⟨decide_eq_true ⟨hN, hk⟩, fun hc => ?_, fun hc => ?_⟩
  · rw [hag] at hc
    intro hlt
    have hp : putOk (lessR (rekeyR (putDone r kind plain now ttl) key) r.fNext) kind plain now ttl = true := by
      have hne : ((r.fNext + 1 == 1000000000) : Bool) = false := by simp; omega
      unfold putOk
      rw [hL, h2, inB_of h4.1 h4.2, inB_of h5.1 h5.2, hLn, hne]
      simp [h3, h6]
    obtain ⟨_, _, q⟩ := put_cases (lessR (rekeyR (putDone r kind plain now ttl) key) r.fNext) kind plain now ttl
    have := (q hp hlen).2.2
    simp only at hc
    omega
  · rw [hag] at hc ⊢
    simp only at hc ⊢
    obtain ⟨q1, q2, q3⟩ := put_cases (lessR (rekeyR (putDone r kind plain now ttl) key) r.fNext) kind plain now ttl
    cases hp : putOk (lessR (rekeyR (putDone r kind plain now ttl) key) r.fNext) kind plain now ttl with
    | false => have := (q1 hp).2.2; omega
    | true =>
      obtain ⟨w1, w2, w3⟩ := q3 hp hlen
      rw [w1, w2]
      have ho := (open_put hp hlen).2.1
      rw [hLn] at ho ⊢
      exact ⟨by omega, by rw [ho]⟩
theorem sweep_put {r : GRack} {kind plain : List UInt8} {now ttl : Int} (h : putOk r kind plain now ttl = true) (h60 : r.fWraps.length ≠ 60) :
    r.fNext ∈ (sweepT (putDone r kind plain now ttl) (now + ttl)).2 ∧ (openT (sweepT (putDone r kind plain now ttl) (now + ttl)).1 r.fNext now).2.2 = 2 := by
  obtain ⟨h1, h2, h3, h4, h5, h6, h7⟩ := putOk_iff h
  obtain ⟨b1, b2, b3⟩ := rack_next h1
  have hN := rackOk_putDone h h60
  unfold sweepT
  rw [if_pos hN]
  refine ⟨?_, open_none (rackOk_swept hN _) h4 ?_⟩
  · show r.fNext ∈ goneG (now + ttl) (r.fWraps ++ [_])
    unfold goneG
    rw [List.filter_append, List.map_append]
    refine List.mem_append_right _ ?_
    simp [endedG]
  · show (keptG (now + ttl) (r.fWraps ++ [_])).find? (fun x => x.fId == r.fNext) = none
    rw [List.find?_eq_none]
    intro x hx
    unfold keptG at hx
    obtain ⟨m1, m2⟩ := List.mem_filter.1 hx
    rcases List.mem_append.1 m1 with m1 | m1
    · have := b3 x m1
      simp
      omega
    · simp at m1
      subst m1
      simp [endedG] at m2
structure RkS where
  rk : GRack
  cu : Cur
def rkKinds : List (List UInt8) := [[97], [107, 118, 47, 98], [100, 98]]
def rkStep (S : RkS) : RkS :=
  let t := lPick S.cu [] rkKinds
  let n := lBelow t.2 7
  let d := lByteL n.2 n.1.toNat
  let a := lBelow d.2 30
  let b := lBelow a.2 60
  let e := lBelow b.2 2
  ⟨{ putR S.rk t.1 d.1 a.1 (1 + b.1) with fNext := IntKind.i64.wrap ((putR S.rk t.1 d.1 a.1 (1 + b.1)).fNext + e.1) }, e.2⟩
def rkRun (S : RkS) : Nat → RkS
  | 0 => S
  | i + 1 => rkStep (rkRun S i)
def rkS0 (c : Cur) : RkS := ⟨{ fKey := (lGood c).1, fNext := 1 + (lBelow (lGood c).2 5).1, fWraps := [] }, (lBelow (lGood c).2 5).2⟩
def setW (R : GRack) (i : Nat) (f : GWrap → GWrap) : GRack := { R with fWraps := (match R.fWraps[i]? with | some x => R.fWraps.set i (f x) | none => R.fWraps) }
def rkBend (R : GRack) (i : Nat) (k : Int) (u : Cur) : GRack × Cur :=
  if k = 0 ∨ k = 1 then (setW R i fun x => { x with fBox := { x.fBox with fTag := IntKind.i64.wrap (x.fBox.fTag + 1) } }, u)
  else if k = 2 then (setW R i fun x => { x with fId := (lPick u 0 [0, R.fNext, (match R.fWraps[0]? with | some y => y.fId | none => 0)]).1 }, (lPick u 0 [0, R.fNext, (match R.fWraps[0]? with | some y => y.fId | none => 0)]).2)
  else if k = 3 then (setW R i fun x => { x with fKind := (lPath u).1 }, (lPath u).2)
  else (setW R i fun x => { x with fEnds := (lPick u 0 [0, 1000000000, 1000000001]).1 }, (lPick u 0 [0, 1000000000, 1000000001]).2)
def rkB (R : GRack) (u : Cur) : GRack × Cur :=
  if (lOnce u 6).1 = true ∧ 0 < R.fWraps.length then
    rkBend R (lBelow (lOnce u 6).2 (R.fWraps.length : Nat)).1.toNat (lBelow (lBelow (lOnce u 6).2 (R.fWraps.length : Nat)).2 5).1 (lBelow (lBelow (lOnce u 6).2 (R.fWraps.length : Nat)).2 5).2
  else (R, (lOnce u 6).2)
def rkC (R : GRack) (v : Cur) : GRack × Cur :=
  if (lOnce v 20).1 = true then ({ R with fNext := (lPick (lOnce v 20).2 0 [0, 1000000000, 1000000001, R.fNext]).1 }, (lPick (lOnce v 20).2 0 [0, 1000000000, 1000000001, R.fNext]).2)
  else (R, (lOnce v 20).2)
def lRack (c : Cur) (n : Int) : GRack × Cur := rkC (rkB (rkRun (rkS0 c) n.toNat).rk (rkRun (rkS0 c) n.toNat).cu).1 (rkB (rkRun (rkS0 c) n.toNat).rk (rkRun (rkS0 c) n.toNat).cu).2
theorem kinds_len {x : List UInt8} (h : x ∈ rkKinds) : x.length ≤ 4 := by
  simp only [rkKinds, List.mem_cons, List.not_mem_nil, or_false] at h
  rcases h with rfl | rfl | rfl <;> simp
theorem putR_cost2 (r : GRack) (kind plain : List UInt8) (now ttl : Int) : (putR r kind plain now ttl).cost ≤ r.cost + 1 + kind.length + plain.length := by
  unfold putR
  split
  · show (r.fWraps ++ [_]).length + sumBy GWrap.cost (r.fWraps ++ [_]) ≤ _
    rw [sumBy_append, List.length_append]
    have h1 : r.cost = r.fWraps.length + sumBy GWrap.cost r.fWraps := rfl
    have h2 : sumBy GWrap.cost [{ fId := r.fNext, fEnds := now + ttl, fKind := kind, fBox := sealV r.fKey r.fNext plain }] = kind.length + (mask r.fKey r.fNext plain).length := rfl
    rw [h2, mask_len, h1]
    simp only [List.length_singleton]
    omega
  · omega
theorem rkRun_ok {c : Cur} (hc : c.good) : ∀ i : Nat, (rkRun (rkS0 c) i).cu.good ∧ (rkRun (rkS0 c) i).rk.cost ≤ 11 * i := by
  intro i
  induction i with
  | zero => exact ⟨lBelow_good (lGood_good hc) 5, Nat.le_refl _⟩
  | succ i ih =>
    obtain ⟨h1, h2⟩ := ih
    have g1 := lPick_good h1 [] rkKinds
    have m1 := kinds_len (lPick_mem (rkRun (rkS0 c) i).cu [] (l := rkKinds) (by simp [rkKinds]))
    show (rkStep (rkRun (rkS0 c) i)).cu.good ∧ (rkStep (rkRun (rkS0 c) i)).rk.cost ≤ _
    generalize rkRun (rkS0 c) i = S at *
    unfold rkStep
    dsimp only
    generalize lPick S.cu [] rkKinds = t at *
    have g2 := lBelow_good g1 7
    have r2 := lBelow_rng t.2 (n := 7) (by omega)
    generalize lBelow t.2 7 = n at *
    have g3 := lByteL_good g2 n.1.toNat
    have l3 := lByteL_len n.2 n.1.toNat
    generalize lByteL n.2 n.1.toNat = d at *
    have g4 := lBelow_good g3 30
    generalize lBelow d.2 30 = a at *
    have g5 := lBelow_good g4 60
    generalize lBelow a.2 60 = b at *
    refine ⟨lBelow_good g5 2, ?_⟩
    have := putR_cost2 S.rk t.1 d.1 a.1 (1 + b.1)
    show (putR S.rk t.1 d.1 a.1 (1 + b.1)).cost ≤ _
    omega
theorem sumBy_setW {α : Type} {f : α → Nat} {l : List α} {i : Nat} {x y : α} (h : l[i]? = some x) : sumBy f (l.set i y) ≤ sumBy f l + f y := by
  induction l generalizing i with
  | nil => simp at h
  | cons a t ih =>
    cases i with
    | zero => simp only [List.set_cons_zero, sumBy]; omega
    | succ i => simp only [List.set_cons_succ, sumBy]; have := ih (i := i) (by simpa using h); omega
end Go.Proofs.YtmihpclfdicfkaaDoor.Ab
