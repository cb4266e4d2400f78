/-
  A part of a proof about the given program; what is proved is said where each theorem stands.
-/
import Derived.Test.YtmihpclfdicfkaaDoorFrameA
import Derived.Test.YtmihpclfdicfkaaDoorFrameB
import Derived.Test.YtmihpclfdicfkaaDoorFrameC
import Derived.Test.YtmihpclfdicfkaaDoorFrameD
import Derived.Test.YtmihpclfdicfkaaDoorFrameE
import Derived.Test.YtmihpclfdicfkaaDoorShelf
import Derived.Test.YtmihpclfdicfkaaDoorCodesA
import Derived.Test.YtmihpclfdicfkaaDoorCodesB
import Derived.Test.YtmihpclfdicfkaaDoorCodesC
import Derived.Test.YtmihpclfdicfkaaDoorPartA
import Derived.Test.YtmihpclfdicfkaaDoorPartB
import Derived.Test.YtmihpclfdicfkaaDoorPartC
import Derived.Test.YtmihpclfdicfkaaDoorPartD
namespace Go.Proofs
end Go.Proofs
set_option linter.unusedSimpArgs false
set_option linter.unusedVariables false
set_option maxRecDepth 100000
set_option maxHeartbeats 2000000
namespace Go.Proofs.YtmihpclfdicfkaaDoor.Ab
open Go.Proofs
variable {GG : GV}
theorem lNow_v (c : Cur) (hc : c.good) : ∃ (x : Int) (u : Cur), u.good ∧ (x = 0 ∨ x = -1 ∨ (0 ≤ x ∧ x ≤ 1000000001)) ∧ Valid PP GG F_S_l14DrawNow [.box c.o] (.d (.int .i64 x)) [some (.box u.o)] := by
  have c1 := lBelow_v (GG := GG) c 40 hc
  have g1 := lBelow_good hc 40
  have r1 := lBelow_rng c (n := 40) (by omega)
  generalize lBelow c 40 = a at *
  have c2 := lBelow_v (GG := GG) a.2 40 g1
  have g2 := lBelow_good g1 40
  have r2 := lBelow_rng a.2 (n := 40) (by omega)
  generalize lBelow a.2 40 = b at *
  have c3 := lBelow_v (GG := GG) b.2 100 g2
  have g3 := lBelow_good g2 100
  have r3 := lBelow_rng b.2 (n := 100) (by omega)
  generalize lBelow b.2 100 = d at *
  have c4 := lPickI_v (GG := GG) d.2 [0, a.1, b.1, d.1, 1000000000, 1000000001, -1] g3 (by simp) (by simp)
  have g4 := lPick_good g3 (0 : Int) [0, a.1, b.1, d.1, 1000000000, 1000000001, -1]
  have m4 := lPick_mem d.2 (0 : Int) (l := [0, a.1, b.1, d.1, 1000000000, 1000000001, -1]) (by simp)
  generalize lPick d.2 0 [0, a.1, b.1, d.1, 1000000000, 1000000001, -1] = q at *
  simp only [intsD, List.map_cons, List.map_nil] at c4
  refine ⟨q.1, q.2, g4, ?_, ?_⟩
  · simp only [List.mem_cons, List.not_mem_nil, or_false] at m4
    omega
  refine v_S_l14DrawNow [.d (.int .i64 q.1)] rfl rfl ?_
  repeat' (first | refine W_seq ?_ | refine W_skip ?_ | refine W_block ?_ | refine W_exit ?_ | refine pick_pos rfl ?_ | refine pick_neg rfl ?_ | ((first | refine W_regP fun K hK => ?_ | refine W_regPD fun K hK => ?_ | refine W_ret ?_ | with_reducible refine callQ (c1) ?_ | with_reducible refine callQ (c2) ?_ | with_reducible refine callQ (c3) ?_ | with_reducible refine callQ (c4) ?_); simp [Fin]) | (with_reducible refine hK _ ?_; clear hK K) | (with_reducible refine goL_split (fun h => ?_) (fun h => ?_) <;> first | (exfalso; simp at h; first | done | omega | contradiction) | ((try simp at h); simp)) | with_reducible refine And.intro ?_ ?_ | with_reducible exact okay_rfl rfl | with_reducible assumption | (refine W_cond rfl (fun h => ?_) (fun h => ?_) <;> first | (exfalso; simp at h; first | done | omega | contradiction) | (exfalso; simp_all; done) | (try simp at h)) | omega)
theorem lRack_v (c : Cur) (n : Int) (hc : c.good) (hn : n ≤ 60) : Valid PP GG F_S_l14DrawRack [.box c.o, .d (.int .i64 n)] (.agg (lRack c n).1.o) [some (.box (lRack c n).2.o), none] := by
  refine v_S_l14DrawRack [.agg (lRack c n).1.o] rfl rfl ?_
  have hr : lRack c n = rkC (rkB (rkRun (rkS0 c) n.toNat).rk (rkRun (rkS0 c) n.toNat).cu).1 (rkB (rkRun (rkS0 c) n.toNat).rk (rkRun (rkS0 c) n.toNat).cu).2 := rfl
  rw [hr]
  clear hr
  have h0 : rkS0 c = ⟨{ fKey := (lGood c).1, fNext := 1 + (lBelow (lGood c).2 5).1, fWraps := [] }, (lBelow (lGood c).2 5).2⟩ := rfl
  have hrun := rkRun_ok hc
  generalize hS0 : rkS0 c = S0 at *
  have c1 := lGood_v (GG := GG) c hc
  have g1 := lGood_good hc
  generalize lGood c = a at *
  have c2 := lBelow_v (GG := GG) a.2 5 g1
  have r2 := lBelow_rng a.2 (n := 5) (by omega)
  generalize lBelow a.2 5 = b at *
  have w2 : IntKind.i64.wrap (1 + b.1) = 1 + b.1 := wrap_id (by omega) (by omega)
  have e0 : rkRun S0 0 = ⟨{ fKey := a.1, fNext := 1 + b.1, fWraps := [] }, b.2⟩ := h0
  clear hS0 h0 g1 r2
  refine W_seq (?_)
  apply W_regS
  · intro K hK
    simp
    repeat' (first | with_reducible exact hK | (with_reducible refine goL_split (fun _ => ?_) (fun _ => ?_) <;> simp) | with_reducible refine And.intro ?_ ?_ | with_reducible exact okay_rfl rfl | with_reducible assumption | omega)
  refine W_seq (?_)
  apply W_regS
  · intro K hK
    simp [w2]
    repeat' (first | with_reducible exact hK | (with_reducible refine callQ (c1) ?_; simp [w2]) | (with_reducible refine callQ (c2) ?_; simp [w2]) | (with_reducible refine goL_split (fun _ => ?_) (fun _ => ?_) <;> simp [w2]) | with_reducible refine And.intro ?_ ?_ | with_reducible exact okay_rfl rfl | with_reducible assumption | omega)
  refine W_nilP 5 2 rfl rfl rfl ?_
  clear c1 c2
  repeat' (first | refine W_seq ?_ | refine W_skip ?_ | refine W_block ?_ | refine W_exit ?_ | refine pick_pos rfl ?_ | refine pick_neg rfl ?_ | ((first | refine W_regP fun K hK => ?_ | refine W_regPD fun K hK => ?_ | refine W_ret ?_); simp [Fin]) | (with_reducible refine hK _ ?_; clear hK K) | (with_reducible refine goL_split (fun h => ?_) (fun h => ?_) <;> first | (exfalso; simp at h; first | done | omega | contradiction) | ((try simp at h); simp)) | with_reducible refine And.intro ?_ ?_ | with_reducible exact okay_rfl rfl | with_reducible assumption | (refine W_cond rfl (fun h => ?_) (fun h => ?_) <;> first | (exfalso; simp at h; first | done | omega | contradiction) | (exfalso; simp_all; done) | (try simp at h)) | omega)
  refine W_loop (fun k st => ∃ i : Nat, k = n.toNat - i ∧ i ≤ n.toNat ∧
    st = ⟨[], [(0, .ptr 0 0), (1, .d (.int .i64 n)), (4, .ptr 1 0), (5, .ptr 2 0), (6, .d (.int .i64 i))], [(0, .box [.d (.slc 1 (bytesD (rkRun S0 i).cu.b)), .d (.int .i64 (rkRun S0 i).cu.i), .d (.int .i64 (rkRun S0 i).cu.h)]), (1, .box [.d (.int .i64 0), .d (.int .i64 0), .nil 1 6]), (2, .box [.d (.int .i64 (rkRun S0 i).rk.fKey), .d (.int .i64 (rkRun S0 i).rk.fNext), .sl 3]), (3, .arr 0 1 6 (rWrap (rkRun S0 i).rk.fWraps))], 4⟩) _ ⟨0, rfl, by omega, ?_⟩ ?_
  · rw [e0]
    simp [gc, closeN, liveA, gcV, gcO, renA, renAs, renO, namesAs, namesA, namesO, posn, rWrap]
  rintro k st ⟨i, rfl, hi, rfl⟩
  clear e0
  by_cases hlt : (i : Int) < n
  · obtain ⟨q1, q2⟩ := hrun i
    have hs : rkRun S0 (i + 1) = rkStep (rkRun S0 i) := rfl
    generalize rkRun S0 i = S at *
    have hst : rkStep S = ⟨{ putR S.rk (lPick S.cu [] rkKinds).1 (lByteL (lBelow (lPick S.cu [] rkKinds).2 7).2 (lBelow (lPick S.cu [] rkKinds).2 7).1.toNat).1 (lBelow (lByteL (lBelow (lPick S.cu [] rkKinds).2 7).2 (lBelow (lPick S.cu [] rkKinds).2 7).1.toNat).2 30).1 (1 + (lBelow (lBelow (lByteL (lBelow (lPick S.cu [] rkKinds).2 7).2 (lBelow (lPick S.cu [] rkKinds).2 7).1.toNat).2 30).2 60).1) with fNext := IntKind.i64.wrap ((putR S.rk (lPick S.cu [] rkKinds).1 (lByteL (lBelow (lPick S.cu [] rkKinds).2 7).2 (lBelow (lPick S.cu [] rkKinds).2 7).1.toNat).1 (lBelow (lByteL (lBelow (lPick S.cu [] rkKinds).2 7).2 (lBelow (lPick S.cu [] rkKinds).2 7).1.toNat).2 30).1 (1 + (lBelow (lBelow (lByteL (lBelow (lPick S.cu [] rkKinds).2 7).2 (lBelow (lPick S.cu [] rkKinds).2 7).1.toNat).2 30).2 60).1)).fNext + (lBelow (lBelow (lBelow (lByteL (lBelow (lPick S.cu [] rkKinds).2 7).2 (lBelow (lPick S.cu [] rkKinds).2 7).1.toNat).2 30).2 60).2 2).1) }, (lBelow (lBelow (lBelow (lByteL (lBelow (lPick S.cu [] rkKinds).2 7).2 (lBelow (lPick S.cu [] rkKinds).2 7).1.toNat).2 30).2 60).2 2).2⟩ := rfl
    have c3 := lPickT_v (GG := GG) S.cu rkKinds q1 (by simp [rkKinds]) (by simp [rkKinds])
    have g3 := lPick_good q1 [] rkKinds
    have m3 := kinds_len (lPick_mem S.cu [] (l := rkKinds) (by simp [rkKinds]))
    generalize lPick S.cu [] rkKinds = t at *
    simp only [rkKinds, strsD, List.map_cons, List.map_nil] at c3
    have c4 := lBelow_v (GG := GG) t.2 7 g3
    have g4 := lBelow_good g3 7
    have r4 := lBelow_rng t.2 (n := 7) (by omega)
    generalize lBelow t.2 7 = p at *
    have c5 := lBytes_v (GG := GG) p.2 p.1 g4 (by omega)
    have g5 := lByteL_good g4 p.1.toNat
    have l5 := lByteL_len p.2 p.1.toNat
    generalize lByteL p.2 p.1.toNat = d at *
    have c6 := lBelow_v (GG := GG) d.2 30 g5
    have g6 := lBelow_good g5 30
    have r6 := lBelow_rng d.2 (n := 30) (by omega)
    generalize lBelow d.2 30 = x at *
    have c7 := lBelow_v (GG := GG) x.2 60 g6
    have g7 := lBelow_good g6 60
    have r7 := lBelow_rng x.2 (n := 60) (by omega)
    generalize lBelow x.2 60 = y at *
    have c8 := lBelow_v (GG := GG) y.2 2 g7
    have r8 := lBelow_rng y.2 (n := 2) (by omega)
    generalize lBelow y.2 2 = z at *
    have w7 : IntKind.i64.wrap (1 + y.1) = 1 + y.1 := wrap_id (by omega) (by omega)
    have cp := s_PutWrap_ok (GG := GG) S.rk t.1 d.1 x.1 (1 + y.1) (by omega) (by omega) (by omega)
    obtain ⟨SR, Su⟩ := S
    dsimp only at *
    have hind := ind_rWrap (putR SR t.1 d.1 x.1 (1 + y.1)).fWraps
    have hindb := ind_bytes d.1
    generalize putR SR t.1 d.1 x.1 (1 + y.1) = Q at *
    generalize putI SR t.1 d.1 x.1 (1 + y.1) = QI at *
    generalize putC SR t.1 d.1 x.1 (1 + y.1) = QC at *
    clear q2 m3 l5 r4 r6 r7 r8 hrun
    repeat' (first | refine W_seq ?_ | refine W_skip ?_ | refine W_block ?_ | refine W_exit ?_ | refine pick_pos rfl ?_ | refine pick_neg rfl ?_ | ((first | refine W_regP fun K hK => ?_ | refine W_regPD fun K hK => ?_ | refine W_ret ?_ | with_reducible refine callQ (c3) ?_ | with_reducible refine callQ (c4) ?_ | with_reducible refine callQ (c5) ?_ | with_reducible refine callQ (c6) ?_ | with_reducible refine callQ (c7) ?_ | with_reducible refine callQ (c8) ?_ | with_reducible refine callQ (cp) ?_); simp [Fin, hlt, w7]) | (with_reducible refine hK _ ?_; clear hK K) | (with_reducible refine goL_split (fun h => ?_) (fun h => ?_) <;> first | (exfalso; simp at h; first | done | omega | contradiction) | ((try simp at h); simp [hlt, w7])) | with_reducible refine And.intro ?_ ?_ | with_reducible exact okay_rfl rfl | with_reducible assumption | (refine W_cond rfl (fun h => ?_) (fun h => ?_) <;> first | (exfalso; simp at h; first | done | omega | contradiction) | (exfalso; simp_all; done) | (try simp at h)) | omega)
    refine ⟨n.toNat - (i + 1), by omega, i + 1, rfl, by omega, ?_⟩
    rw [hs, hst]
    simp [gc, closeN, liveA, gcV, gcO, renA, renAs, renO, namesAs, namesA, namesO, posn]
    exact wrap_id (by omega) (by omega)
  have hie : n.toNat = i := by omega
  rw [hie]
  obtain ⟨q1, q2⟩ := hrun i
  generalize rkRun S0 i = S at *
  obtain ⟨⟨SF, SN, l⟩, u⟩ := S
  dsimp only at *
  clear hrun hie
  have hl1 : l.length ≤ 11 * i := by have : (GRack.mk SF SN l).cost = l.length + sumBy GWrap.cost l := rfl; omega
  have hll : l.length ≤ 1048576 := by omega
  clear q2 hl1 hi
  have hB : rkB ⟨SF, SN, l⟩ u = if (lOnce u 6).1 = true ∧ 0 < l.length then
      rkBend ⟨SF, SN, l⟩ (lBelow (lOnce u 6).2 (l.length : Nat)).1.toNat (lBelow (lBelow (lOnce u 6).2 (l.length : Nat)).2 5).1 (lBelow (lBelow (lOnce u 6).2 (l.length : Nat)).2 5).2
    else (⟨SF, SN, l⟩, (lOnce u 6).2) := rfl
  have hiN := ind_rWrap l
  have c4 := lOnce_v (GG := GG) u 6 q1
  have g4 := lOnce_good q1 6
  generalize lOnce u 6 = o at *
  obtain ⟨o1, o2⟩ := o
  dsimp only at *
  have hC : ∀ (R : GRack) (v : Cur), rkC R v = if (lOnce v 20).1 = true then ({ R with fNext := (lPick (lOnce v 20).2 0 [0, 1000000000, 1000000001, R.fNext]).1 }, (lPick (lOnce v 20).2 0 [0, 1000000000, 1000000001, R.fNext]).2) else (R, (lOnce v 20).2) := fun _ _ => rfl
  by_cases hon : o1 = true ∧ 0 < l.length
  rotate_left
  · rw [if_neg hon] at hB
    rw [hB, hC]
    clear hB hC
    dsimp only
    have c5 := lOnce_v (GG := GG) o2 20 g4
    have g5 := lOnce_good g4 20
    generalize lOnce o2 20 = p at *
    obtain ⟨p1, p2⟩ := p
    dsimp only at g5
    have c6 := lPickI_v (GG := GG) p2 [0, 1000000000, 1000000001, SN] g5 (by simp) (by simp)
    generalize lPick p2 0 [0, 1000000000, 1000000001, SN] = q at *
    simp only [intsD, List.map_cons, List.map_nil] at c6
    cases o1
    · cases p1
      · rw [if_neg (by simp)]
        repeat' (first | refine W_seq ?_ | refine W_skip ?_ | refine W_block ?_ | refine W_exit ?_ | refine pick_pos rfl ?_ | refine pick_neg rfl ?_ | ((first | refine W_regP fun K hK => ?_ | refine W_regPD fun K hK => ?_ | refine W_ret ?_ | with_reducible refine callQ (c4) ?_ | with_reducible refine callQ (c5) ?_); simp [Fin, hlt]) | (with_reducible refine hK _ ?_; clear hK K) | (with_reducible refine goL_split (fun h => ?_) (fun h => ?_) <;> first | (exfalso; simp at h; first | done | omega | contradiction) | ((try simp at h); simp [hlt])) | with_reducible refine And.intro ?_ ?_ | with_reducible exact okay_rfl rfl | with_reducible assumption | (refine W_cond rfl (fun h => ?_) (fun h => ?_) <;> first | (exfalso; simp at h; first | done | omega | contradiction) | (exfalso; simp_all; done) | (try simp at h)) | omega)
      · rw [if_pos rfl]
        repeat' (first | refine W_seq ?_ | refine W_skip ?_ | refine W_block ?_ | refine W_exit ?_ | refine pick_pos rfl ?_ | refine pick_neg rfl ?_ | ((first | refine W_regP fun K hK => ?_ | refine W_regPD fun K hK => ?_ | refine W_ret ?_ | with_reducible refine callQ (c4) ?_ | with_reducible refine callQ (c5) ?_ | with_reducible refine callQ (c6) ?_); simp [Fin, hlt]) | (with_reducible refine hK _ ?_; clear hK K) | (with_reducible refine goL_split (fun h => ?_) (fun h => ?_) <;> first | (exfalso; simp at h; first | done | omega | contradiction) | ((try simp at h); simp [hlt])) | with_reducible refine And.intro ?_ ?_ | with_reducible exact okay_rfl rfl | with_reducible assumption | (refine W_cond rfl (fun h => ?_) (fun h => ?_) <;> first | (exfalso; simp at h; first | done | omega | contradiction) | (exfalso; simp_all; done) | (try simp at h)) | omega)
    · have hl0 : l = [] := by cases l with | nil => rfl | cons a t => exact absurd ⟨rfl, by simp⟩ hon
      subst hl0
      cases p1
      · rw [if_neg (by simp)]
        repeat' (first | refine W_seq ?_ | refine W_skip ?_ | refine W_block ?_ | refine W_exit ?_ | refine pick_pos rfl ?_ | refine pick_neg rfl ?_ | ((first | refine W_regP fun K hK => ?_ | refine W_regPD fun K hK => ?_ | refine W_ret ?_ | with_reducible refine callQ (c4) ?_ | with_reducible refine callQ (c5) ?_); simp [Fin, hlt]) | (with_reducible refine hK _ ?_; clear hK K) | (with_reducible refine goL_split (fun h => ?_) (fun h => ?_) <;> first | (exfalso; simp at h; first | done | omega | contradiction) | ((try simp at h); simp [hlt])) | with_reducible refine And.intro ?_ ?_ | with_reducible exact okay_rfl rfl | with_reducible assumption | (refine W_cond rfl (fun h => ?_) (fun h => ?_) <;> first | (exfalso; simp at h; first | done | omega | contradiction) | (exfalso; simp_all; done) | (try simp at h)) | omega)
      · rw [if_pos rfl]
        repeat' (first | refine W_seq ?_ | refine W_skip ?_ | refine W_block ?_ | refine W_exit ?_ | refine pick_pos rfl ?_ | refine pick_neg rfl ?_ | ((first | refine W_regP fun K hK => ?_ | refine W_regPD fun K hK => ?_ | refine W_ret ?_ | with_reducible refine callQ (c4) ?_ | with_reducible refine callQ (c5) ?_ | with_reducible refine callQ (c6) ?_); simp [Fin, hlt]) | (with_reducible refine hK _ ?_; clear hK K) | (with_reducible refine goL_split (fun h => ?_) (fun h => ?_) <;> first | (exfalso; simp at h; first | done | omega | contradiction) | ((try simp at h); simp [hlt])) | with_reducible refine And.intro ?_ ?_ | with_reducible exact okay_rfl rfl | with_reducible assumption | (refine W_cond rfl (fun h => ?_) (fun h => ?_) <;> first | (exfalso; simp at h; first | done | omega | contradiction) | (exfalso; simp_all; done) | (try simp at h)) | omega)
  obtain ⟨rfl, hlp⟩ := hon
  rw [if_pos ⟨rfl, hlp⟩] at hB
  have hgl : ((0 : Int) < (l.length : Nat)) = True := by simp; omega
  have c5 := lBelow_v (GG := GG) o2 (l.length : Nat) g4
  have g5 := lBelow_good g4 (l.length : Nat)
  have r5 := lBelow_rng o2 (n := (l.length : Nat)) (by omega)
  generalize lBelow o2 (l.length : Nat) = ii at *
  obtain ⟨ix, i2⟩ := ii
  dsimp only at *
  obtain ⟨j, rfl⟩ := Int.eq_ofNat_of_zero_le r5.1
  rw [Int.toNat_natCast] at hB
  have hj : j < l.length := by omega
  have hg := List.getElem?_eq_getElem hj
  generalize l[j] = x at hg
  have hz := List.getElem?_eq_getElem hlp
  generalize l[0] = y at hz
  have c6 := lBelow_v (GG := GG) i2 5 g5
  have g6 := lBelow_good g5 5
  have r6 := lBelow_rng i2 (n := 5) (by omega)
  generalize lBelow i2 5 = kk at *
  obtain ⟨k1, k2⟩ := kk
  dsimp only at *
  obtain ⟨x1, x2, x3, ⟨x4, x5, x6⟩⟩ := x
  by_cases e0 : k1 = 0
  · subst e0
    have hb : rkBend ⟨SF, SN, l⟩ j 0 k2 = (⟨SF, SN, l.set j ⟨x1, x2, x3, ⟨x4, x5, IntKind.i64.wrap (x6 + 1)⟩⟩⟩, k2) := by
      unfold rkBend setW; simp [hg]
    rw [hb] at hB
    rw [hB, hC]
    clear hB hC hb r5 r6
    dsimp only
    have c8 := lOnce_v (GG := GG) k2 20 g6
    have g8 := lOnce_good g6 20
    generalize lOnce k2 20 = p at *
    obtain ⟨p1, p2⟩ := p
    dsimp only at g8
    have c9 := lPickI_v (GG := GG) p2 [0, 1000000000, 1000000001, SN] g8 (by simp) (by simp)
    generalize lPick p2 0 [0, 1000000000, 1000000001, SN] = q at *
    simp only [intsD, List.map_cons, List.map_nil] at c9
    have hset : (rWrap l).set j (GWrap.row ⟨x1, x2, x3, ⟨x4, x5, IntKind.i64.wrap (x6 + 1)⟩⟩) = rWrap (l.set j ⟨x1, x2, x3, ⟨x4, x5, IntKind.i64.wrap (x6 + 1)⟩⟩) := by unfold rWrap; rw [List.map_set]
    cases p1
    · rw [if_neg (by simp)]
      repeat' (first | refine W_seq ?_ | refine W_skip ?_ | refine W_block ?_ | refine W_exit ?_ | refine pick_pos rfl ?_ | refine pick_neg rfl ?_ | ((first | refine W_regP fun K hK => ?_ | refine W_regPD fun K hK => ?_ | refine W_ret ?_ | with_reducible refine callQ (c4) ?_ | with_reducible refine callQ (c5) ?_ | with_reducible refine callQ (c6) ?_ | with_reducible refine callQ (c8) ?_); simp [Fin, hlt, hgl, hg]) | (with_reducible refine hK _ ?_; clear hK K) | (with_reducible refine goL_split (fun h => ?_) (fun h => ?_) <;> first | (exfalso; simp at h; first | done | omega | contradiction) | ((try simp at h); simp [hlt, hgl, hg])) | with_reducible refine And.intro ?_ ?_ | with_reducible exact okay_rfl rfl | with_reducible assumption | (refine W_cond rfl (fun h => ?_) (fun h => ?_) <;> first | (exfalso; simp at h; first | done | omega | contradiction) | (exfalso; simp_all; done) | (try simp at h)) | omega)
      all_goals first | exact hj | exact hset
    · rw [if_pos rfl]
      repeat' (first | refine W_seq ?_ | refine W_skip ?_ | refine W_block ?_ | refine W_exit ?_ | refine pick_pos rfl ?_ | refine pick_neg rfl ?_ | ((first | refine W_regP fun K hK => ?_ | refine W_regPD fun K hK => ?_ | refine W_ret ?_ | with_reducible refine callQ (c4) ?_ | with_reducible refine callQ (c5) ?_ | with_reducible refine callQ (c6) ?_ | with_reducible refine callQ (c8) ?_ | with_reducible refine callQ (c9) ?_); simp [Fin, hlt, hgl, hg]) | (with_reducible refine hK _ ?_; clear hK K) | (with_reducible refine goL_split (fun h => ?_) (fun h => ?_) <;> first | (exfalso; simp at h; first | done | omega | contradiction) | ((try simp at h); simp [hlt, hgl, hg])) | with_reducible refine And.intro ?_ ?_ | with_reducible exact okay_rfl rfl | with_reducible assumption | (refine W_cond rfl (fun h => ?_) (fun h => ?_) <;> first | (exfalso; simp at h; first | done | omega | contradiction) | (exfalso; simp_all; done) | (try simp at h)) | omega)
      all_goals first | exact hj | exact hset
  by_cases e1 : k1 = 1
  · subst e1
    have hb : rkBend ⟨SF, SN, l⟩ j 1 k2 = (⟨SF, SN, l.set j ⟨x1, x2, x3, ⟨x4, x5, IntKind.i64.wrap (x6 + 1)⟩⟩⟩, k2) := by
      unfold rkBend setW; simp [hg]
    rw [hb] at hB
    rw [hB, hC]
    clear hB hC hb r5 r6
    dsimp only
    have c8 := lOnce_v (GG := GG) k2 20 g6
    have g8 := lOnce_good g6 20
    generalize lOnce k2 20 = p at *
    obtain ⟨p1, p2⟩ := p
    dsimp only at g8
    have c9 := lPickI_v (GG := GG) p2 [0, 1000000000, 1000000001, SN] g8 (by simp) (by simp)
    generalize lPick p2 0 [0, 1000000000, 1000000001, SN] = q at *
    simp only [intsD, List.map_cons, List.map_nil] at c9
    have hset : (rWrap l).set j (GWrap.row ⟨x1, x2, x3, ⟨x4, x5, IntKind.i64.wrap (x6 + 1)⟩⟩) = rWrap (l.set j ⟨x1, x2, x3, ⟨x4, x5, IntKind.i64.wrap (x6 + 1)⟩⟩) := by unfold rWrap; rw [List.map_set]
    cases p1
    · rw [if_neg (by simp)]
      repeat' (first | refine W_seq ?_ | refine W_skip ?_ | refine W_block ?_ | refine W_exit ?_ | refine pick_pos rfl ?_ | refine pick_neg rfl ?_ | ((first | refine W_regP fun K hK => ?_ | refine W_regPD fun K hK => ?_ | refine W_ret ?_ | with_reducible refine callQ (c4) ?_ | with_reducible refine callQ (c5) ?_ | with_reducible refine callQ (c6) ?_ | with_reducible refine callQ (c8) ?_); simp [Fin, hlt, hgl, hg]) | (with_reducible refine hK _ ?_; clear hK K) | (with_reducible refine goL_split (fun h => ?_) (fun h => ?_) <;> first | (exfalso; simp at h; first | done | omega | contradiction) | ((try simp at h); simp [hlt, hgl, hg])) | with_reducible refine And.intro ?_ ?_ | with_reducible exact okay_rfl rfl | with_reducible assumption | (refine W_cond rfl (fun h => ?_) (fun h => ?_) <;> first | (exfalso; simp at h; first | done | omega | contradiction) | (exfalso; simp_all; done) | (try simp at h)) | omega)
      all_goals first | exact hj | exact hset
    · rw [if_pos rfl]
      repeat' (first | refine W_seq ?_ | refine W_skip ?_ | refine W_block ?_ | refine W_exit ?_ | refine pick_pos rfl ?_ | refine pick_neg rfl ?_ | ((first | refine W_regP fun K hK => ?_ | refine W_regPD fun K hK => ?_ | refine W_ret ?_ | with_reducible refine callQ (c4) ?_ | with_reducible refine callQ (c5) ?_ | with_reducible refine callQ (c6) ?_ | with_reducible refine callQ (c8) ?_ | with_reducible refine callQ (c9) ?_); simp [Fin, hlt, hgl, hg]) | (with_reducible refine hK _ ?_; clear hK K) | (with_reducible refine goL_split (fun h => ?_) (fun h => ?_) <;> first | (exfalso; simp at h; first | done | omega | contradiction) | ((try simp at h); simp [hlt, hgl, hg])) | with_reducible refine And.intro ?_ ?_ | with_reducible exact okay_rfl rfl | with_reducible assumption | (refine W_cond rfl (fun h => ?_) (fun h => ?_) <;> first | (exfalso; simp at h; first | done | omega | contradiction) | (exfalso; simp_all; done) | (try simp at h)) | omega)
      all_goals first | exact hj | exact hset
  by_cases e2 : k1 = 2
  · subst e2
    have c7 := lPickI_v (GG := GG) k2 [0, SN, y.fId] g6 (by simp) (by simp)
    have g7 := lPick_good g6 (0 : Int) [0, SN, y.fId]
    have hbz : rkBend ⟨SF, SN, l⟩ j 2 k2 = (setW ⟨SF, SN, l⟩ j fun x => { x with fId := (lPick k2 0 [0, SN, y.fId]).1 }, (lPick k2 0 [0, SN, y.fId]).2) := by
      unfold rkBend; simp [hz]
    generalize lPick k2 0 [0, SN, y.fId] = v at *
    simp only [intsD, List.map_cons, List.map_nil] at c7
    have hb : rkBend ⟨SF, SN, l⟩ j 2 k2 = (⟨SF, SN, l.set j ⟨v.1, x2, x3, ⟨x4, x5, x6⟩⟩⟩, v.2) := by
      rw [hbz]; unfold setW; simp [hg]
    rw [hb] at hB
    rw [hB, hC]
    clear hB hC hb hbz r5 r6
    dsimp only
    have c8 := lOnce_v (GG := GG) v.2 20 g7
    have g8 := lOnce_good g7 20
    generalize lOnce v.2 20 = p at *
    obtain ⟨p1, p2⟩ := p
    dsimp only at g8
    have c9 := lPickI_v (GG := GG) p2 [0, 1000000000, 1000000001, SN] g8 (by simp) (by simp)
    generalize lPick p2 0 [0, 1000000000, 1000000001, SN] = q at *
    simp only [intsD, List.map_cons, List.map_nil] at c9
    have hset : (rWrap l).set j (GWrap.row ⟨v.1, x2, x3, ⟨x4, x5, x6⟩⟩) = rWrap (l.set j ⟨v.1, x2, x3, ⟨x4, x5, x6⟩⟩) := by unfold rWrap; rw [List.map_set]
    cases p1
    · rw [if_neg (by simp)]
      repeat' (first | refine W_seq ?_ | refine W_skip ?_ | refine W_block ?_ | refine W_exit ?_ | refine pick_pos rfl ?_ | refine pick_neg rfl ?_ | ((first | refine W_regP fun K hK => ?_ | refine W_regPD fun K hK => ?_ | refine W_ret ?_ | with_reducible refine callQ (c4) ?_ | with_reducible refine callQ (c5) ?_ | with_reducible refine callQ (c6) ?_ | with_reducible refine callQ (c7) ?_ | with_reducible refine callQ (c8) ?_); simp [Fin, hlt, hgl, hg, hz]) | (with_reducible refine hK _ ?_; clear hK K) | (with_reducible refine goL_split (fun h => ?_) (fun h => ?_) <;> first | (exfalso; simp at h; first | done | omega | contradiction) | ((try simp at h); simp [hlt, hgl, hg, hz])) | with_reducible refine And.intro ?_ ?_ | with_reducible exact okay_rfl rfl | with_reducible assumption | (refine W_cond rfl (fun h => ?_) (fun h => ?_) <;> first | (exfalso; simp at h; first | done | omega | contradiction) | (exfalso; simp_all; done) | (try simp at h)) | omega)
      all_goals first | exact hj | exact hset
    · rw [if_pos rfl]
      repeat' (first | refine W_seq ?_ | refine W_skip ?_ | refine W_block ?_ | refine W_exit ?_ | refine pick_pos rfl ?_ | refine pick_neg rfl ?_ | ((first | refine W_regP fun K hK => ?_ | refine W_regPD fun K hK => ?_ | refine W_ret ?_ | with_reducible refine callQ (c4) ?_ | with_reducible refine callQ (c5) ?_ | with_reducible refine callQ (c6) ?_ | with_reducible refine callQ (c7) ?_ | with_reducible refine callQ (c8) ?_ | with_reducible refine callQ (c9) ?_); simp [Fin, hlt, hgl, hg, hz]) | (with_reducible refine hK _ ?_; clear hK K) | (with_reducible refine goL_split (fun h => ?_) (fun h => ?_) <;> first | (exfalso; simp at h; first | done | omega | contradiction) | ((try simp at h); simp [hlt, hgl, hg, hz])) | with_reducible refine And.intro ?_ ?_ | with_reducible exact okay_rfl rfl | with_reducible assumption | (refine W_cond rfl (fun h => ?_) (fun h => ?_) <;> first | (exfalso; simp at h; first | done | omega | contradiction) | (exfalso; simp_all; done) | (try simp at h)) | omega)
      all_goals first | exact hj | exact hset
  by_cases e3 : k1 = 3
  · subst e3
    have c7 := lPath_v (GG := GG) k2 g6
    have g7 := lPath_good g6
    have hbz : rkBend ⟨SF, SN, l⟩ j 3 k2 = (setW ⟨SF, SN, l⟩ j fun x => { x with fKind := (lPath k2).1 }, (lPath k2).2) := by
      unfold rkBend; simp
    generalize lPath k2 = v at *
    have hb : rkBend ⟨SF, SN, l⟩ j 3 k2 = (⟨SF, SN, l.set j ⟨x1, x2, v.1, ⟨x4, x5, x6⟩⟩⟩, v.2) := by
      rw [hbz]; unfold setW; simp [hg]
    rw [hb] at hB
    rw [hB, hC]
    clear hB hC hb hbz r5 r6
    dsimp only
    have c8 := lOnce_v (GG := GG) v.2 20 g7
    have g8 := lOnce_good g7 20
    generalize lOnce v.2 20 = p at *
    obtain ⟨p1, p2⟩ := p
    dsimp only at g8
    have c9 := lPickI_v (GG := GG) p2 [0, 1000000000, 1000000001, SN] g8 (by simp) (by simp)
    generalize lPick p2 0 [0, 1000000000, 1000000001, SN] = q at *
    simp only [intsD, List.map_cons, List.map_nil] at c9
    have hset : (rWrap l).set j (GWrap.row ⟨x1, x2, v.1, ⟨x4, x5, x6⟩⟩) = rWrap (l.set j ⟨x1, x2, v.1, ⟨x4, x5, x6⟩⟩) := by unfold rWrap; rw [List.map_set]
    cases p1
    · rw [if_neg (by simp)]
      repeat' (first | refine W_seq ?_ | refine W_skip ?_ | refine W_block ?_ | refine W_exit ?_ | refine pick_pos rfl ?_ | refine pick_neg rfl ?_ | ((first | refine W_regP fun K hK => ?_ | refine W_regPD fun K hK => ?_ | refine W_ret ?_ | with_reducible refine callQ (c4) ?_ | with_reducible refine callQ (c5) ?_ | with_reducible refine callQ (c6) ?_ | with_reducible refine callQ (c7) ?_ | with_reducible refine callQ (c8) ?_); simp [Fin, hlt, hgl, hg]) | (with_reducible refine hK _ ?_; clear hK K) | (with_reducible refine goL_split (fun h => ?_) (fun h => ?_) <;> first | (exfalso; simp at h; first | done | omega | contradiction) | ((try simp at h); simp [hlt, hgl, hg])) | with_reducible refine And.intro ?_ ?_ | with_reducible exact okay_rfl rfl | with_reducible assumption | (refine W_cond rfl (fun h => ?_) (fun h => ?_) <;> first | (exfalso; simp at h; first | done | omega | contradiction) | (exfalso; simp_all; done) | (try simp at h)) | omega)
      all_goals first | exact hj | exact hset
    · rw [if_pos rfl]
      repeat' (first | refine W_seq ?_ | refine W_skip ?_ | refine W_block ?_ | refine W_exit ?_ | refine pick_pos rfl ?_ | refine pick_neg rfl ?_ | ((first | refine W_regP fun K hK => ?_ | refine W_regPD fun K hK => ?_ | refine W_ret ?_ | with_reducible refine callQ (c4) ?_ | with_reducible refine callQ (c5) ?_ | with_reducible refine callQ (c6) ?_ | with_reducible refine callQ (c7) ?_ | with_reducible refine callQ (c8) ?_ | with_reducible refine callQ (c9) ?_); simp [Fin, hlt, hgl, hg]) | (with_reducible refine hK _ ?_; clear hK K) | (with_reducible refine goL_split (fun h => ?_) (fun h => ?_) <;> first | (exfalso; simp at h; first | done | omega | contradiction) | ((try simp at h); simp [hlt, hgl, hg])) | with_reducible refine And.intro ?_ ?_ | with_reducible exact okay_rfl rfl | with_reducible assumption | (refine W_cond rfl (fun h => ?_) (fun h => ?_) <;> first | (exfalso; simp at h; first | done | omega | contradiction) | (exfalso; simp_all; done) | (try simp at h)) | omega)
      all_goals first | exact hj | exact hset
  have e4 : k1 = 4 := by omega
  subst e4
  have c7 := lPickI_v (GG := GG) k2 [0, 1000000000, 1000000001] g6 (by simp) (by simp)
  have g7 := lPick_good g6 (0 : Int) [0, 1000000000, 1000000001]
  have hbz : rkBend ⟨SF, SN, l⟩ j 4 k2 = (setW ⟨SF, SN, l⟩ j fun x => { x with fEnds := (lPick k2 0 [0, 1000000000, 1000000001]).1 }, (lPick k2 (0 : Int) [0, 1000000000, 1000000001]).2) := by
    unfold rkBend; first | (simp; done) | (simp; rfl)
  generalize lPick k2 (0 : Int) [0, 1000000000, 1000000001] = v at *
  simp only [intsD, List.map_cons, List.map_nil] at c7
  have hb : rkBend ⟨SF, SN, l⟩ j 4 k2 = (⟨SF, SN, l.set j ⟨x1, v.1, x3, ⟨x4, x5, x6⟩⟩⟩, v.2) := by
    rw [hbz]; unfold setW; simp [hg]
  rw [hb] at hB
  rw [hB, hC]
  clear hB hC hb hbz r5 r6
  dsimp only
  have c8 := lOnce_v (GG := GG) v.2 20 g7
  have g8 := lOnce_good g7 20
  generalize lOnce v.2 20 = p at *
  obtain ⟨p1, p2⟩ := p
  dsimp only at g8
  have c9 := lPickI_v (GG := GG) p2 [0, 1000000000, 1000000001, SN] g8 (by simp) (by simp)
  generalize lPick p2 0 [0, 1000000000, 1000000001, SN] = q at *
  simp only [intsD, List.map_cons, List.map_nil] at c9
  have hset : (rWrap l).set j (GWrap.row ⟨x1, v.1, x3, ⟨x4, x5, x6⟩⟩) = rWrap (l.set j ⟨x1, v.1, x3, ⟨x4, x5, x6⟩⟩) := by unfold rWrap; rw [List.map_set]
  cases p1
  · rw [if_neg (by simp)]
    repeat' (first | refine W_seq ?_ | refine W_skip ?_ | refine W_block ?_ | refine W_exit ?_ | refine pick_pos rfl ?_ | refine pick_neg rfl ?_ | ((first | refine W_regP fun K hK => ?_ | refine W_regPD fun K hK => ?_ | refine W_ret ?_ | with_reducible refine callQ (c4) ?_ | with_reducible refine callQ (c5) ?_ | with_reducible refine callQ (c6) ?_ | with_reducible refine callQ (c7) ?_ | with_reducible refine callQ (c8) ?_); simp [Fin, hlt, hgl, hg]) | (with_reducible refine hK _ ?_; clear hK K) | (with_reducible refine goL_split (fun h => ?_) (fun h => ?_) <;> first | (exfalso; simp at h; first | done | omega | contradiction) | ((try simp at h); simp [hlt, hgl, hg])) | with_reducible refine And.intro ?_ ?_ | with_reducible exact okay_rfl rfl | with_reducible assumption | (refine W_cond rfl (fun h => ?_) (fun h => ?_) <;> first | (exfalso; simp at h; first | done | omega | contradiction) | (exfalso; simp_all; done) | (try simp at h)) | omega)
    all_goals first | exact hj | exact hset
  · rw [if_pos rfl]
    repeat' (first | refine W_seq ?_ | refine W_skip ?_ | refine W_block ?_ | refine W_exit ?_ | refine pick_pos rfl ?_ | refine pick_neg rfl ?_ | ((first | refine W_regP fun K hK => ?_ | refine W_regPD fun K hK => ?_ | refine W_ret ?_ | with_reducible refine callQ (c4) ?_ | with_reducible refine callQ (c5) ?_ | with_reducible refine callQ (c6) ?_ | with_reducible refine callQ (c7) ?_ | with_reducible refine callQ (c8) ?_ | with_reducible refine callQ (c9) ?_); simp [Fin, hlt, hgl, hg]) | (with_reducible refine hK _ ?_; clear hK K) | (with_reducible refine goL_split (fun h => ?_) (fun h => ?_) <;> first | (exfalso; simp at h; first | done | omega | contradiction) | ((try simp at h); simp [hlt, hgl, hg])) | with_reducible refine And.intro ?_ ?_ | with_reducible exact okay_rfl rfl | with_reducible assumption | (refine W_cond rfl (fun h => ?_) (fun h => ?_) <;> first | (exfalso; simp at h; first | done | omega | contradiction) | (exfalso; simp_all; done) | (try simp at h)) | omega)
    all_goals first | exact hj | exact hset
theorem setW_cost {R : GRack} {i K : Nat} {f : GWrap → GWrap} (hf : ∀ x : GWrap, (f x).cost ≤ x.cost + K) : (setW R i f).cost ≤ 2 * R.cost + K := by
  unfold setW
  cases hx : R.fWraps[i]? with
  | none => show R.fWraps.length + sumBy GWrap.cost R.fWraps ≤ 2 * (R.fWraps.length + sumBy GWrap.cost R.fWraps) + K; omega
  | some x =>
    have h5 := sumBy_setW (f := GWrap.cost) (y := f x) hx
    have h6 := sumBy_get (f := GWrap.cost) hx
    have h7 := hf x
    show (R.fWraps.set i (f x)).length + sumBy GWrap.cost (R.fWraps.set i (f x)) ≤ 2 * (R.fWraps.length + sumBy GWrap.cost R.fWraps) + K
    rw [List.length_set]
    omega
theorem rkBend_ok (R : GRack) (i : Nat) (k : Int) {u : Cur} (hu : u.good) : (rkBend R i k u).1.cost ≤ 2 * R.cost + 200 ∧ (rkBend R i k u).2.good := by
  unfold rkBend
  split
  · exact ⟨Nat.le_trans (setW_cost (K := 0) fun x => Nat.le_refl _) (by omega), hu⟩
  split
  · exact ⟨Nat.le_trans (setW_cost (K := 0) fun x => Nat.le_refl _) (by omega), lPick_good hu (0 : Int) _⟩
  split
  · have := lPath_len u
    exact ⟨setW_cost fun x => by show (lPath u).1.length + x.fBox.cost ≤ x.fKind.length + x.fBox.cost + 200; omega, lPath_good hu⟩
  · exact ⟨Nat.le_trans (setW_cost (K := 0) fun x => Nat.le_refl _) (by omega), lPick_good hu (0 : Nat) _⟩
theorem lRack_ok {c : Cur} (hc : c.good) {n : Int} (hn : n ≤ 60) : (lRack c n).1.cost ≤ 2000 ∧ (lRack c n).2.good := by
  obtain ⟨g1, g2⟩ := rkRun_ok hc n.toNat
  unfold lRack
  generalize rkRun (rkS0 c) n.toNat = S at *
  have hB : (rkB S.rk S.cu).1.cost ≤ 2000 ∧ (rkB S.rk S.cu).2.good := by
    have ho := lOnce_good g1 6
    unfold rkB
    split
    · obtain ⟨b1, b2⟩ := rkBend_ok S.rk (lBelow (lOnce S.cu 6).2 (S.rk.fWraps.length : Nat)).1.toNat (lBelow (lBelow (lOnce S.cu 6).2 (S.rk.fWraps.length : Nat)).2 5).1 (lBelow_good (lBelow_good ho (S.rk.fWraps.length : Nat)) 5)
      exact ⟨by omega, b2⟩
    · exact ⟨by show S.rk.cost ≤ 2000; omega, ho⟩
  generalize rkB S.rk S.cu = T at *
  have ho := lOnce_good hB.2 20
  unfold rkC
  split
  · exact ⟨hB.1, lPick_good ho (0 : Int) _⟩
  · exact ⟨hB.1, ho⟩
theorem lOneR_v [MaxL GG] (code : List UInt8) (h : code.length ≤ 1048577) : ∃ (R : GRack) (u : Cur), R.cost ≤ 2000 ∧ u.good ∧ Valid PP GG F_S_l14DrawOne [.d (.slc 1 (bytesD code))] (.tup [.box u.o, .agg R.o]) [none] := by
  have c1 := lNew_v (GG := GG) code h
  have g1 := lNew_good h
  have c2 := lSize_v (GG := GG) code 12 h
  have z1 : lSize code.length 12 ≤ 12 := by unfold lSize; split <;> omega
  generalize lNew code = u at *
  generalize lSize code.length 12 = z at *
  have c3 := lBelow_v (GG := GG) u z g1
  have g2 := lBelow_good g1 z
  have r2 := lBelow_rng0 u z
  generalize lBelow u z = n at *
  have c4 := lOnce_v (GG := GG) n.2 30 g2
  have g3 := lOnce_good g2 30
  generalize lOnce n.2 30 = o at *
  obtain ⟨o1, o2⟩ := o
  dsimp only at g3
  have hn : n.1 ≤ 60 := by split at r2 <;> omega
  clear r2
  cases o1
  · have c5 := lRack_v (GG := GG) o2 n.1 g3 hn
    obtain ⟨k1, k2⟩ := lRack_ok g3 hn
    have hi := ind_rWrap (lRack o2 n.1).1.fWraps
    generalize lRack o2 n.1 = k at *
    refine ⟨k.1, k.2, k1, k2, ?_⟩
    refine v_S_l14DrawOne [.box k.2.o, .agg k.1.o] rfl rfl ?_
    repeat' (first | refine W_seq ?_ | refine W_skip ?_ | refine W_block ?_ | refine W_exit ?_ | refine pick_pos rfl ?_ | refine pick_neg rfl ?_ | ((first | refine W_regP fun K hK => ?_ | refine W_regPD fun K hK => ?_ | refine W_ret ?_ | with_reducible refine callQ (c1) ?_ | with_reducible refine callQ (c2) ?_ | with_reducible refine callQ (c3) ?_ | with_reducible refine callQ (c4) ?_ | with_reducible refine callQ (c5) ?_); simp [Fin]) | (with_reducible refine hK _ ?_; clear hK K) | (with_reducible refine goL_split (fun h => ?_) (fun h => ?_) <;> first | (exfalso; simp at h; first | done | omega | contradiction) | ((try simp at h); simp)) | with_reducible refine And.intro ?_ ?_ | with_reducible exact okay_rfl rfl | with_reducible assumption | (refine W_cond rfl (fun h => ?_) (fun h => ?_) <;> first | (exfalso; simp at h; first | done | omega | contradiction) | (exfalso; simp_all; done) | (try simp at h)) | omega)
  · have c5 := lRack_v (GG := GG) o2 60 g3 (by omega)
    obtain ⟨k1, k2⟩ := lRack_ok (n := 60) g3 (by omega)
    have hi := ind_rWrap (lRack o2 60).1.fWraps
    generalize lRack o2 60 = k at *
    refine ⟨k.1, k.2, k1, k2, ?_⟩
    refine v_S_l14DrawOne [.box k.2.o, .agg k.1.o] rfl rfl ?_
    repeat' (first | refine W_seq ?_ | refine W_skip ?_ | refine W_block ?_ | refine W_exit ?_ | refine pick_pos rfl ?_ | refine pick_neg rfl ?_ | ((first | refine W_regP fun K hK => ?_ | refine W_regPD fun K hK => ?_ | refine W_ret ?_ | with_reducible refine callQ (c1) ?_ | with_reducible refine callQ (c2) ?_ | with_reducible refine callQ (c3) ?_ | with_reducible refine callQ (c4) ?_ | with_reducible refine callQ (c5) ?_); simp [Fin]) | (with_reducible refine hK _ ?_; clear hK K) | (with_reducible refine goL_split (fun h => ?_) (fun h => ?_) <;> first | (exfalso; simp at h; first | done | omega | contradiction) | ((try simp at h); simp)) | with_reducible refine And.intro ?_ ?_ | with_reducible exact okay_rfl rfl | with_reducible assumption | (refine W_cond rfl (fun h => ?_) (fun h => ?_) <;> first | (exfalso; simp at h; first | done | omega | contradiction) | (exfalso; simp_all; done) | (try simp at h)) | omega)
theorem lPutW_v [MaxL GG] (code : List UInt8) (h : code.length ≤ 1048577) : ∃ (R : GRack) (kind plain : List UInt8) (now ttl : Int), R.cost ≤ 2000 ∧ kind.length ≤ 10 ∧ plain.length ≤ 2001 ∧ (-1 ≤ now ∧ now ≤ 1000000001) ∧ (0 ≤ ttl ∧ ttl ≤ 1000000001) ∧
    Valid PP GG F_S_DrawPutWrap [.d (.slc 1 (bytesD code))] (.tup [.agg R.o, .d (.str kind), .own 0 1 (bytesD plain), .d (.int .i64 now), .d (.int .i64 ttl)]) [none] := by
  obtain ⟨R, u, hR, g1, c1⟩ := lOneR_v (GG := GG) code h
  have c2 := lSize_v (GG := GG) code 30 h
  have z1 : lSize code.length 30 ≤ 30 := by unfold lSize; split <;> omega
  generalize lSize code.length 30 = z at *
  have c3 := lBelow_v (GG := GG) u z g1
  have g2 := lBelow_good g1 z
  have r2 := lBelow_rng0 u z
  generalize lBelow u z = n at *
  have hn : n.1 ≤ 30 := by split at r2 <;> omega
  clear r2
  have c4 := lBytes_v (GG := GG) n.2 n.1 g2 (by omega)
  have g3 := lByteL_good g2 n.1.toNat
  have l3 := lByteL_len n.2 n.1.toNat
  generalize lByteL n.2 n.1.toNat = t at *
  have c5 := lOnce_v (GG := GG) t.2 30 g3
  have g4 := lOnce_good g3 30
  generalize lOnce t.2 30 = o at *
  obtain ⟨o1, o2⟩ := o
  dsimp only at g4
  have hiR := ind_rWrap R.fWraps
  have key : ∀ v : Cur, v.good → ∃ (kind : List UInt8) (now ttl : Int) (v1 v2 v3 v4 v5 : Cur) (a b : Int), v1.good ∧ kind.length ≤ 10 ∧ (-1 ≤ now ∧ now ≤ 1000000001) ∧ (0 ≤ ttl ∧ ttl ≤ 1000000001) ∧ (0 ≤ a ∧ a < 60) ∧ (0 ≤ b ∧ b < 60) ∧
      Valid PP GG F_S_l01PickText [.box v.o, .own 0 1 (strsD [[97], [107, 118, 47, 98], [100, 98], [100, 98, 47, 99, 47, 100], [], [97, 47, 42]])] (.d (.str kind)) [some (.box v1.o), none] ∧
      Valid PP GG F_S_l14DrawNow [.box v1.o] (.d (.int .i64 now)) [some (.box v2.o)] ∧
      Valid PP GG F_S_l01Below [.box v2.o, .d (.int .i64 60)] (.d (.int .i64 a)) [some (.box v3.o), none] ∧
      Valid PP GG F_S_l01Below [.box v3.o, .d (.int .i64 60)] (.d (.int .i64 b)) [some (.box v4.o), none] ∧
      Valid PP GG F_S_l01PickInt [.box v4.o, .own 0 1 (intsD [1, 1 + a, 1 + b, 0, 1000000000, 1000000001])] (.d (.int .i64 ttl)) [some (.box v5.o), none] := by
    intro v hv
    have d1 := lPickT_v (GG := GG) v [[97], [107, 118, 47, 98], [100, 98], [100, 98, 47, 99, 47, 100], [], [97, 47, 42]] hv (by simp) (by simp)
    have e1 := lPick_good hv ([] : List UInt8) [[97], [107, 118, 47, 98], [100, 98], [100, 98, 47, 99, 47, 100], [], [97, 47, 42]]
    have m1 := lPick_mem v ([] : List UInt8) (l := [[97], [107, 118, 47, 98], [100, 98], [100, 98, 47, 99, 47, 100], [], [97, 47, 42]]) (by simp)
    generalize lPick v ([] : List UInt8) [[97], [107, 118, 47, 98], [100, 98], [100, 98, 47, 99, 47, 100], [], [97, 47, 42]] = q at *
    obtain ⟨x, w, hw, hx, d2⟩ := lNow_v (GG := GG) q.2 e1
    have d3 := lBelow_v (GG := GG) w 60 hw
    have e3 := lBelow_good hw 60
    have r3 := lBelow_rng w (n := 60) (by omega)
    generalize lBelow w 60 = a at *
    have d4 := lBelow_v (GG := GG) a.2 60 e3
    have e4 := lBelow_good e3 60
    have r4 := lBelow_rng a.2 (n := 60) (by omega)
    generalize lBelow a.2 60 = b at *
    have d5 := lPickI_v (GG := GG) b.2 [1, 1 + a.1, 1 + b.1, 0, 1000000000, 1000000001] e4 (by simp) (by simp)
    have m5 := lPick_mem b.2 (0 : Int) (l := [1, 1 + a.1, 1 + b.1, 0, 1000000000, 1000000001]) (by simp)
    generalize lPick b.2 (0 : Int) [1, 1 + a.1, 1 + b.1, 0, 1000000000, 1000000001] = p at *
    refine ⟨q.1, x, p.1, q.2, w, a.2, b.2, p.2, a.1, b.1, e1, ?_, by omega, ?_, r3, r4, d1, d2, d3, d4, d5⟩
    · simp only [List.mem_cons, List.not_mem_nil, or_false] at m1
      rcases m1 with m | m | m | m | m | m <;> rw [m] <;> simp
    · simp only [List.mem_cons, List.not_mem_nil, or_false] at m5
      omega
  cases o1
  · obtain ⟨kind, now, ttl, v1, v2, v3, v4, v5, a, b, _, k1, k2, k3, ra, rb, d1, d2, d3, d4, d5⟩ := key o2 g4
    simp only [intsD, strsD, List.map_cons, List.map_nil] at d1 d5
    have w1 : IntKind.i64.wrap (1 + a) = 1 + a := wrap_id (by omega) (by omega)
    have w2 : IntKind.i64.wrap (1 + b) = 1 + b := wrap_id (by omega) (by omega)
    refine ⟨R, kind, t.1, now, ttl, hR, k1, by omega, k2, k3, ?_⟩
    refine v_S_DrawPutWrap [.agg R.o, .d (.str kind), .own 0 1 (bytesD t.1), .d (.int .i64 now), .d (.int .i64 ttl)] rfl rfl ?_
    have hib := ind_bytes t.1
    repeat' (first | refine W_seq ?_ | refine W_skip ?_ | refine W_block ?_ | refine W_exit ?_ | refine pick_pos rfl ?_ | refine pick_neg rfl ?_ | ((first | refine W_regP fun K hK => ?_ | refine W_regPD fun K hK => ?_ | refine W_ret ?_ | with_reducible refine callQ (c1) ?_ | with_reducible refine callQ (c2) ?_ | with_reducible refine callQ (c3) ?_ | with_reducible refine callQ (c4) ?_ | with_reducible refine callQ (c5) ?_ | with_reducible refine callQ (d1) ?_ | with_reducible refine callQ (d2) ?_ | with_reducible refine callQ (d3) ?_ | with_reducible refine callQ (d4) ?_ | with_reducible refine callQ (d5) ?_); simp [Fin, w1, w2]) | (with_reducible refine hK _ ?_; clear hK K) | (with_reducible refine goL_split (fun h => ?_) (fun h => ?_) <;> first | (exfalso; simp at h; first | done | omega | contradiction) | ((try simp at h); simp [w1, w2])) | with_reducible refine And.intro ?_ ?_ | with_reducible exact okay_rfl rfl | with_reducible assumption | (refine W_cond rfl (fun h => ?_) (fun h => ?_) <;> first | (exfalso; simp at h; first | done | omega | contradiction) | (exfalso; simp_all; done) | (try simp at h)) | omega)
  · have c6 := lBelow_v (GG := GG) o2 2 g4
    have g5 := lBelow_good g4 2
    have r5 := lBelow_rng o2 (n := 2) (by omega)
    generalize lBelow o2 2 = m at *
    have c7 := lBytes_v (GG := GG) m.2 (2000 + m.1) g5 (by omega)
    have g7 := lByteL_good g5 (2000 + m.1).toNat
    have l7 := lByteL_len m.2 (2000 + m.1).toNat
    generalize lByteL m.2 (2000 + m.1).toNat = t2 at *
    have hw : IntKind.i64.wrap (2000 + m.1) = 2000 + m.1 := wrap_id (by omega) (by omega)
    obtain ⟨kind, now, ttl, v1, v2, v3, v4, v5, a, b, _, k1, k2, k3, ra, rb, d1, d2, d3, d4, d5⟩ := key t2.2 g7
    simp only [intsD, strsD, List.map_cons, List.map_nil] at d1 d5
    have w1 : IntKind.i64.wrap (1 + a) = 1 + a := wrap_id (by omega) (by omega)
    have w2 : IntKind.i64.wrap (1 + b) = 1 + b := wrap_id (by omega) (by omega)
    refine ⟨R, kind, t2.1, now, ttl, hR, k1, by omega, k2, k3, ?_⟩
    refine v_S_DrawPutWrap [.agg R.o, .d (.str kind), .own 0 1 (bytesD t2.1), .d (.int .i64 now), .d (.int .i64 ttl)] rfl rfl ?_
    have hib := ind_bytes t2.1
    have hib2 := ind_bytes t.1
    repeat' (first | refine W_seq ?_ | refine W_skip ?_ | refine W_block ?_ | refine W_exit ?_ | refine pick_pos rfl ?_ | refine pick_neg rfl ?_ | ((first | refine W_regP fun K hK => ?_ | refine W_regPD fun K hK => ?_ | refine W_ret ?_ | with_reducible refine callQ (c1) ?_ | with_reducible refine callQ (c2) ?_ | with_reducible refine callQ (c3) ?_ | with_reducible refine callQ (c4) ?_ | with_reducible refine callQ (c5) ?_ | with_reducible refine callQ (c6) ?_ | with_reducible refine callQ (c7) ?_ | with_reducible refine callQ (d1) ?_ | with_reducible refine callQ (d2) ?_ | with_reducible refine callQ (d3) ?_ | with_reducible refine callQ (d4) ?_ | with_reducible refine callQ (d5) ?_); simp [Fin, hw, w1, w2]) | (with_reducible refine hK _ ?_; clear hK K) | (with_reducible refine goL_split (fun h => ?_) (fun h => ?_) <;> first | (exfalso; simp at h; first | done | omega | contradiction) | ((try simp at h); simp [hw, w1, w2])) | with_reducible refine And.intro ?_ ?_ | with_reducible exact okay_rfl rfl | with_reducible assumption | (refine W_cond rfl (fun h => ?_) (fun h => ?_) <;> first | (exfalso; simp at h; first | done | omega | contradiction) | (exfalso; simp_all; done) | (try simp at h)) | omega)
theorem cpBytes_ok (a : List UInt8) (ha : a.length ≤ 70368744177664) : Valid PP GG F_L_cpBytes [.d (.slc 1 (bytesD a))] (.own 0 1 (bytesD a)) [none] := by
  refine v_L_cpBytes [.own 0 1 (bytesD a)] rfl rfl ?_
  refine W_seq (?_)
  apply W_regS
  · intro K hK
    simp
    repeat' (first | with_reducible exact hK | (with_reducible refine goL_split (fun _ => ?_) (fun _ => ?_) <;> simp) | with_reducible refine And.intro ?_ ?_ | with_reducible exact okay_rfl rfl | with_reducible assumption | omega)
  refine W_seq (?_)
  apply W_regS
  · intro K hK
    simp [litA]
    repeat' (first | with_reducible exact hK | (with_reducible refine goL_split (fun _ => ?_) (fun _ => ?_) <;> simp [litA]) | with_reducible refine And.intro ?_ ?_ | with_reducible exact okay_rfl rfl | with_reducible assumption | omega)
  refine W_seq (W_seq (?_))
  apply W_regS
  · intro K hK
    simp
    repeat' (first | with_reducible exact hK | (with_reducible refine goL_split (fun _ => ?_) (fun _ => ?_) <;> simp) | with_reducible refine And.intro ?_ ?_ | with_reducible exact okay_rfl rfl | with_reducible assumption | omega)
  refine W_block (W_loop (fun n st => ∃ i : Nat, n = a.length - i ∧ i ≤ a.length ∧
    st = ⟨[], [(0, .d (.slc 1 (bytesD a))), (3, .sl 0), (4, .d (.int .i64 i))], [(0, .arr 0 0 1 (bytesD (a.take i)))], 1⟩) _ ⟨0, rfl, by omega, rfl⟩ ?_)
  rintro n st ⟨i, rfl, hi, rfl⟩
  refine W_seq (W_seq (?_))
  apply W_regS
  · intro K hK
    simp
    repeat' (first | with_reducible exact hK | (with_reducible refine goL_split (fun _ => ?_) (fun _ => ?_) <;> simp) | with_reducible refine And.intro ?_ ?_ | with_reducible exact okay_rfl rfl | with_reducible assumption | omega)
  refine W_cond rfl (fun h => W_skip ?_) (fun h => W_exit ?_)
  · simp at h
    have hx := List.getElem?_eq_getElem h
    generalize a[i] = x at hx
    have hl : (a.take i).length ≤ a.length := by rw [List.length_take]; omega
    refine W_seq (W_block ?_)
    apply W_regS
    · intro K hK
      simp [hx, limit]
      repeat' (first | with_reducible exact hK | (with_reducible refine goL_split (fun _ => ?_) (fun _ => ?_) <;> simp [hx, limit]) | with_reducible refine And.intro ?_ ?_ | with_reducible exact okay_rfl rfl | with_reducible assumption | omega)
    apply W_regS
    · intro K hK
      simp
      repeat' (first | with_reducible exact hK | (with_reducible refine goL_split (fun _ => ?_) (fun _ => ?_) <;> simp) | with_reducible refine And.intro ?_ ?_ | with_reducible exact okay_rfl rfl | with_reducible assumption | omega)
    exact ⟨a.length - (i + 1), by omega, i + 1, rfl, h, by simp [gc, closeN, liveA, gcV, gcO, renA, renAs, renO, namesAs, namesA, namesO, posn, bytesD_succ hx]; exact wrap_id (by omega) (by omega)⟩
  · simp at h
    rw [if_pos rfl]
    refine W_seq (?_)
    apply W_regS
    · intro K hK
      simp [List.take_of_length_le h]
      repeat' (first | with_reducible exact hK | (with_reducible refine goL_split (fun _ => ?_) (fun _ => ?_) <;> simp [List.take_of_length_le h]) | with_reducible refine And.intro ?_ ?_ | with_reducible exact okay_rfl rfl | with_reducible assumption | omega)
    refine W_ret ?_
    simp [Fin]
    all_goals omega
theorem sameBytes_ok (a : List UInt8) (hsz : a.length ≤ 281474976710656) : Valid PP GG F_L_sameBytes [.d (.slc 1 (bytesD a)), .d (.slc 1 (bytesD a))] (.d (.bool true)) [none, none] := by
  refine v_L_sameBytes [.d (.bool true)] rfl rfl ?_
  repeat' (first | refine W_seq ?_ | refine W_skip ?_ | refine W_block ?_ | refine W_exit ?_ | refine pick_pos rfl ?_ | refine pick_neg rfl ?_ | ((first | refine W_regP fun K hK => ?_ | refine W_regPD fun K hK => ?_ | refine W_ret ?_); simp [Fin]) | (with_reducible refine hK _ ?_; clear hK K) | (with_reducible refine goL_split (fun h => ?_) (fun h => ?_) <;> first | (exfalso; simp at h; first | done | omega | contradiction) | ((try simp at h); simp)) | with_reducible refine And.intro ?_ ?_ | with_reducible exact okay_rfl rfl | with_reducible assumption | (refine W_cond rfl (fun h => ?_) (fun h => ?_) <;> first | (exfalso; simp at h; first | done | omega | contradiction) | (exfalso; simp_all; done) | (try simp at h)) | omega)
  refine W_loop (fun n st => ∃ i : Nat, n = a.length - i ∧ i ≤ a.length ∧ st = ⟨[], [(0, .d (.slc 1 (bytesD a))), (1, .d (.slc 1 (bytesD a))), (5, .d (.int .i64 i))], [], 0⟩) _ ⟨0, rfl, by omega, ?_⟩ ?_
  · simp [gc, closeN, liveA, gcV, gcO, renA, renAs, renO, namesAs, namesA, namesO, posn]
  rintro n st ⟨i, rfl, hi, rfl⟩
  by_cases hlt : i < a.length
  · have ha := List.getElem?_eq_getElem hlt
    generalize a[i] = x at ha
    repeat' (first | refine W_seq ?_ | refine W_skip ?_ | refine W_block ?_ | refine W_exit ?_ | refine pick_pos rfl ?_ | refine pick_neg rfl ?_ | ((first | refine W_regP fun K hK => ?_ | refine W_regPD fun K hK => ?_ | refine W_ret ?_); simp [Fin, ha]) | (with_reducible refine hK _ ?_; clear hK K) | (with_reducible refine goL_split (fun h => ?_) (fun h => ?_) <;> first | (exfalso; simp at h; first | done | omega | contradiction) | ((try simp at h); simp [ha])) | with_reducible refine And.intro ?_ ?_ | with_reducible exact okay_rfl rfl | with_reducible assumption | (refine W_cond rfl (fun h => ?_) (fun h => ?_) <;> first | (exfalso; simp at h; first | done | omega | contradiction) | (exfalso; simp_all; done) | (try simp at h)) | omega)
    refine ⟨a.length - (i + 1), by omega, i + 1, rfl, hlt, ?_⟩
    simp [gc, closeN, liveA, gcV, gcO, renA, renAs, renO, namesAs, namesA, namesO, posn]
    exact wrap_id (by omega) (by omega)
  · have hie : i = a.length := by omega
    subst hie
    repeat' (first | refine W_seq ?_ | refine W_skip ?_ | refine W_block ?_ | refine W_exit ?_ | refine pick_pos rfl ?_ | refine pick_neg rfl ?_ | ((first | refine W_regP fun K hK => ?_ | refine W_regPD fun K hK => ?_ | refine W_ret ?_); simp [Fin]) | (with_reducible refine hK _ ?_; clear hK K) | (with_reducible refine goL_split (fun h => ?_) (fun h => ?_) <;> first | (exfalso; simp at h; first | done | omega | contradiction) | ((try simp at h); simp)) | with_reducible refine And.intro ?_ ?_ | with_reducible exact okay_rfl rfl | with_reducible assumption | (refine W_cond rfl (fun h => ?_) (fun h => ?_) <;> first | (exfalso; simp at h; first | done | omega | contradiction) | (exfalso; simp_all; done) | (try simp at h)) | omega)
theorem withinL_ok (l : List Int) (x : Int) (hx : x ∈ l) (hsz : l.length ≤ 281474976710656) : Valid PP GG F_L_within [.d (.slc 1 (intsD l)), .d (.int .i64 x)] (.d (.bool true)) [none, none] := by
  refine v_L_within [.d (.bool true)] rfl rfl ?_
  repeat' (first | refine W_seq ?_ | refine W_skip ?_ | refine W_block ?_ | refine W_exit ?_ | refine pick_pos rfl ?_ | refine pick_neg rfl ?_ | ((first | refine W_regP fun K hK => ?_ | refine W_regPD fun K hK => ?_ | refine W_ret ?_); simp [Fin]) | (with_reducible refine hK _ ?_; clear hK K) | (with_reducible refine goL_split (fun h => ?_) (fun h => ?_) <;> first | (exfalso; simp at h; first | done | omega | contradiction) | ((try simp at h); simp)) | with_reducible refine And.intro ?_ ?_ | with_reducible exact okay_rfl rfl | with_reducible assumption | (refine W_cond rfl (fun h => ?_) (fun h => ?_) <;> first | (exfalso; simp at h; first | done | omega | contradiction) | (exfalso; simp_all; done) | (try simp at h)) | omega)
  refine W_loop (fun n st => ∃ i : Nat, n = l.length - i ∧ i ≤ l.length ∧ (∀ y, y ∈ l.take i → y ≠ x) ∧ st = ⟨[], [(0, .d (.slc 1 (intsD l))), (1, .d (.int .i64 x)), (5, .d (.int .i64 i))], [], 0⟩) _ ⟨0, rfl, by omega, fun y hy => by simp at hy, ?_⟩ ?_
  · simp [gc, closeN, liveA, gcV, gcO, renA, renAs, renO, namesAs, namesA, namesO, posn]
  rintro n st ⟨i, rfl, hi, hn, rfl⟩
  by_cases hlt : i < l.length
  · have ha := List.getElem?_eq_getElem hlt
    generalize l[i] = y at ha
    by_cases hyx : y = x
    · subst hyx
      repeat' (first | refine W_seq ?_ | refine W_skip ?_ | refine W_block ?_ | refine W_exit ?_ | refine pick_pos rfl ?_ | refine pick_neg rfl ?_ | ((first | refine W_regP fun K hK => ?_ | refine W_regPD fun K hK => ?_ | refine W_ret ?_); simp [Fin, ha]) | (with_reducible refine hK _ ?_; clear hK K) | (with_reducible refine goL_split (fun h => ?_) (fun h => ?_) <;> first | (exfalso; simp at h; first | done | omega | contradiction) | ((try simp at h); simp [ha])) | with_reducible refine And.intro ?_ ?_ | with_reducible exact okay_rfl rfl | with_reducible assumption | (refine W_cond rfl (fun h => ?_) (fun h => ?_) <;> first | (exfalso; simp at h; first | done | omega | contradiction) | (exfalso; simp_all; done) | (try simp at h)) | omega)
    · have hf : (y == x) = false := by simp [hyx]
      repeat' (first | refine W_seq ?_ | refine W_skip ?_ | refine W_block ?_ | refine W_exit ?_ | refine pick_pos rfl ?_ | refine pick_neg rfl ?_ | ((first | refine W_regP fun K hK => ?_ | refine W_regPD fun K hK => ?_ | refine W_ret ?_); simp [Fin, ha, hf]) | (with_reducible refine hK _ ?_; clear hK K) | (with_reducible refine goL_split (fun h => ?_) (fun h => ?_) <;> first | (exfalso; simp at h; first | done | omega | contradiction) | ((try simp at h); simp [ha, hf])) | with_reducible refine And.intro ?_ ?_ | with_reducible exact okay_rfl rfl | with_reducible assumption | (refine W_cond rfl (fun h => ?_) (fun h => ?_) <;> first | (exfalso; simp at h; first | done | omega | contradiction) | (exfalso; simp_all; done) | (try simp at h)) | omega)
      refine ⟨l.length - (i + 1), by omega, i + 1, rfl, hlt, fun z hz => ?_, ?_⟩
      · rw [List.take_add_one, ha] at hz
        rcases List.mem_append.1 hz with hz | hz
        · exact hn z hz
        · simp at hz; subst hz; exact hyx
      · simp [gc, closeN, liveA, gcV, gcO, renA, renAs, renO, namesAs, namesA, namesO, posn]
        exact wrap_id (by omega) (by omega)
  · exfalso
    have hie : i = l.length := by omega
    subst hie
    rw [List.take_length] at hn
    exact hn x hx rfl
theorem law_WrapsFn [MaxL GG] (code : List UInt8) (hl : code.length ≤ maxLen) : Valid PP GG F_L_FnWraps [.d (.slc 1 (bytesD code))] (.d (.bool true)) [none] := by
  refine v_L_FnWraps [.d (.bool true)] rfl rfl ?_
  have cb := big_ok (GG := GG) code hl
  by_cases hbig : 1048576 < code.length
  · rw [decide_eq_true hbig] at cb
    repeat' (first | refine W_seq ?_ | refine W_skip ?_ | refine W_block ?_ | refine W_exit ?_ | refine pick_pos rfl ?_ | refine pick_neg rfl ?_ | ((first | refine W_regP fun K hK => ?_ | refine W_regPD fun K hK => ?_ | refine W_ret ?_ | with_reducible refine callQ (cb) ?_); simp [Fin]) | (with_reducible refine hK _ ?_; clear hK K) | (with_reducible refine goL_split (fun h => ?_) (fun h => ?_) <;> first | (exfalso; simp at h; first | done | omega | contradiction) | ((try simp at h); simp)) | with_reducible refine And.intro ?_ ?_ | with_reducible exact okay_rfl rfl | with_reducible assumption | (refine W_cond rfl (fun h => ?_) (fun h => ?_) <;> first | (exfalso; simp at h; first | done | omega | contradiction) | (exfalso; simp_all; done) | (try simp at h)) | omega)
  rw [decide_eq_false hbig] at cb
  obtain ⟨R, kind, plain, now, ttl, hR, hkl, hpl, hnow, httl, cd⟩ := lPutW_v (GG := GG) code (by omega)
  have hiR := ind_rWrap R.fWraps
  have hib := ind_bytes plain
  have cs := s_PutWrap_ok (GG := GG) R kind plain now ttl (by omega) (by omega) (by omega)
  have ci := i_PutWrap_ok (GG := GG) R kind plain now ttl (by omega) (by omega) (by omega)
  have cc := cpBytes_ok (GG := GG) plain (by omega)
  have hcost := putR_cost2 R kind plain now ttl
  obtain ⟨p1, p2, p3⟩ := put_cases R kind plain now ttl
  cases hp : putOk R kind plain now ttl with
  | false =>
    obtain ⟨e1, e2, e3⟩ := p1 hp
    rw [e1, e2, e3] at cs ci
    clear p1 p2 p3 hcost
    repeat' (first | refine W_seq ?_ | refine W_skip ?_ | refine W_block ?_ | refine W_exit ?_ | refine pick_pos rfl ?_ | refine pick_neg rfl ?_ | ((first | refine W_regP fun K hK => ?_ | refine W_regPD fun K hK => ?_ | refine W_ret ?_ | with_reducible refine callQ (cb) ?_ | with_reducible refine callQ (cd) ?_ | with_reducible refine callQ (cs) ?_ | with_reducible refine callQ (cc) ?_ | with_reducible refine callQ (ci) ?_); simp [Fin]) | (with_reducible refine hK _ ?_; clear hK K) | (with_reducible refine goL_split (fun h => ?_) (fun h => ?_) <;> first | (exfalso; simp at h; first | done | omega | contradiction) | ((try simp at h); simp)) | with_reducible refine And.intro ?_ ?_ | with_reducible exact okay_rfl rfl | with_reducible assumption | (refine W_cond rfl (fun h => ?_) (fun h => ?_) <;> first | (exfalso; simp at h; first | done | omega | contradiction) | (exfalso; simp_all; done) | (try simp at h)) | omega)
  | true =>
  by_cases h60 : R.fWraps.length = 60
  · obtain ⟨e1, e2, e3⟩ := p2 hp h60
    rw [e1, e2, e3] at cs ci
    clear p1 p2 p3 hcost
    repeat' (first | refine W_seq ?_ | refine W_skip ?_ | refine W_block ?_ | refine W_exit ?_ | refine pick_pos rfl ?_ | refine pick_neg rfl ?_ | ((first | refine W_regP fun K hK => ?_ | refine W_regPD fun K hK => ?_ | refine W_ret ?_ | with_reducible refine callQ (cb) ?_ | with_reducible refine callQ (cd) ?_ | with_reducible refine callQ (cs) ?_ | with_reducible refine callQ (cc) ?_ | with_reducible refine callQ (ci) ?_); simp [Fin]) | (with_reducible refine hK _ ?_; clear hK K) | (with_reducible refine goL_split (fun h => ?_) (fun h => ?_) <;> first | (exfalso; simp at h; first | done | omega | contradiction) | ((try simp at h); simp)) | with_reducible refine And.intro ?_ ?_ | with_reducible exact okay_rfl rfl | with_reducible assumption | (refine W_cond rfl (fun h => ?_) (fun h => ?_) <;> first | (exfalso; simp at h; first | done | omega | contradiction) | (exfalso; simp_all; done) | (try simp at h)) | omega)
  obtain ⟨e1, e2, e3⟩ := p3 hp h60
  rw [e1, e2, e3] at cs ci
  rw [e1] at hcost
  clear p1 p2 p3 e1 e2 e3
  have hq := putOk_iff hp
  have hN := rackOk_putDone hp h60
  have hn1 := (rack_next hq.1).1
  have k0 := atV_rng code 1
  have k1 := atV_rng code 2
  have a1 : Valid PP GG F_L_at [.d (.slc 1 (bytesD code)), .d (.int .i64 1)] (.d (.int .i64 (atV code 1))) [none, none] := at_ok code 1 (by omega) (by omega)
  have a2 : Valid PP GG F_L_at [.d (.slc 1 (bytesD code)), .d (.int .i64 2)] (.d (.int .i64 (atV code 2))) [none, none] := at_ok code 2 (by omega) (by omega)
  generalize atV code 1 = x1 at *
  generalize atV code 2 = x2 at *
  have w1 : IntKind.i64.wrap (x1 * 4096) = x1 * 4096 := wrap_id (by omega) (by omega)
  have w2 : IntKind.i64.wrap (x1 * 4096 + x2) = x1 * 4096 + x2 := wrap_id (by omega) (by omega)
  have w3 : IntKind.i64.wrap (now + ttl) = now + ttl := wrap_id (by omega) (by omega)
  have w4 : IntKind.i64.wrap (R.fNext + 1) = R.fNext + 1 := wrap_id (by omega) (by omega)
  have hk : keyB (x1 * 4096 + x2) = true := by
    have h1 : 0 ≤ x1 * 4096 + x2 := by omega
    have h2 : x1 * 4096 + x2 ≤ 1099511627776 := by omega
    simp [keyB, inB, h1, h2]
  obtain ⟨b1, b2, b3⟩ := again_put (key := x1 * 4096 + x2) hp h60 hk
  obtain ⟨q1, q2, q3⟩ := peek_put hp h60
  obtain ⟨_, o1, o2⟩ := open_put hp h60
  have o3 := open_none (rackOk_less hN R.fNext) hq.2.2.2.1 (find_less _ _)
  obtain ⟨s1, s2⟩ := sweep_put hp h60
  have hs1 := sweepT_cost (putDone R kind plain now ttl) (now + ttl)
  have hle := less_cost (putDone R kind plain now ttl) R.fNext
  have hre := rekeyR_cost (putDone R kind plain now ttl) (x1 * 4096 + x2)
  have hag := againT_cost (rekeyR (putDone R kind plain now ttl) (x1 * 4096 + x2)) R.fNext now
  have hco : (putDone R kind plain now ttl).cost = (putDone R kind plain now ttl).fWraps.length + sumBy GWrap.cost (putDone R kind plain now ttl).fWraps := rfl
  have hgt : decide ((1000000000 : Int) < now + ttl) = false := decide_eq_false (by omega)
  have hb4 := hq.2.2.1
  generalize putDone R kind plain now ttl = N at *
  clear hp hq hN hk
  have cp := i_PeekWrap_ok (GG := GG) N R.fNext (by omega)
  rw [q1, q2, q3] at cp
  have co := i_OpenWrap_ok (GG := GG) N R.fNext now (by omega)
  rw [o1] at co
  have cl := i_OpenWrap_ok (GG := GG) N R.fNext (now + ttl) (by omega)
  rw [o2] at cl
  have ct := i_OpenWrap_ok (GG := GG) (lessR N R.fNext) R.fNext now (by omega)
  rw [o3] at ct
  have cr := i_RekeyRack_ok (GG := GG) N (x1 * 4096 + x2) (by omega)
  rw [b1] at cr
  have ca := i_AgainWrap_ok (GG := GG) (rekeyR N (x1 * 4096 + x2)) R.fNext now (by omega)
  have co2 := i_OpenWrap_ok (GG := GG) (againT (rekeyR N (x1 * 4096 + x2)) R.fNext now).1 (againT (rekeyR N (x1 * 4096 + x2)) R.fNext now).2.1 now (by omega)
  have cw := i_SweepWraps_ok (GG := GG) N (now + ttl) (by omega)
  have cin := withinL_ok (GG := GG) (sweepT N (now + ttl)).2 R.fNext s1 (by omega)
  have cn := i_OpenWrap_ok (GG := GG) (sweepT N (now + ttl)).1 R.fNext now (by omega)
  rw [s2] at cn
  have csb := sameBytes_ok (GG := GG) plain (by omega)
  have hi1 := ind_rWrap N.fWraps
  have hi2 := ind_rWrap (lessR N R.fNext).fWraps
  have hi3 := ind_rWrap (rekeyR N (x1 * 4096 + x2)).fWraps
  have hi4 := ind_rWrap (againT (rekeyR N (x1 * 4096 + x2)) R.fNext now).1.fWraps
  have hi5 := ind_rWrap (sweepT N (now + ttl)).1.fWraps
  have hi6 := ind_ints (sweepT N (now + ttl)).2
  have hi7 := ind_rWrap (openT (lessR N R.fNext) R.fNext now).1.fWraps
  have hib0 := ind_bytes []
  have hi8 := ind_bytes (openT (lessR N R.fNext) R.fNext now).2.1
  have hi9 := ind_rWrap (openT (sweepT N (now + ttl)).1 R.fNext now).1.fWraps
  have hi10 := ind_bytes (openT (sweepT N (now + ttl)).1 R.fNext now).2.1
  have hi11 := ind_rWrap (openT (againT (rekeyR N (x1 * 4096 + x2)) R.fNext now).1 (againT (rekeyR N (x1 * 4096 + x2)) R.fNext now).2.1 now).1.fWraps
  have hi12 := ind_bytes (openT (againT (rekeyR N (x1 * 4096 + x2)) R.fNext now).1 (againT (rekeyR N (x1 * 4096 + x2)) R.fNext now).2.1 now).2.1
  dsimp only at co cl
  clear o1 o2 o3 s1 s2 hs1 hle hre hag hco q1 q2 q3 b1
  generalize openT (againT (rekeyR N (x1 * 4096 + x2)) R.fNext now).1 (againT (rekeyR N (x1 * 4096 + x2)) R.fNext now).2.1 now = E at *
  generalize openT (sweepT N (now + ttl)).1 R.fNext now = D at *
  generalize sweepT N (now + ttl) = SS at *
  generalize openT (lessR N R.fNext) R.fNext now = T at *
  generalize lessR N R.fNext = L at *
  generalize againT (rekeyR N (x1 * 4096 + x2)) R.fNext now = A at *
  generalize rekeyR N (x1 * 4096 + x2) = M at *
  obtain ⟨AG, AI, AC⟩ := A
  obtain ⟨EG, ED, EC⟩ := E
  obtain ⟨TG, TD, TC⟩ := T
  obtain ⟨DG, DD, DC⟩ := D
  obtain ⟨SG, SI⟩ := SS
  obtain ⟨RK, id, RW⟩ := R
  dsimp only at *
  by_cases hA1 : AC = 1
  · subst hA1
    have hlt : decide (id + 1 < (1000000000 : Int)) = false := decide_eq_false (b2 rfl)
    clear b2 b3 co2
    repeat' (first | refine W_seq ?_ | refine W_skip ?_ | refine W_block ?_ | refine W_exit ?_ | refine pick_pos rfl ?_ | refine pick_neg rfl ?_ | ((first | refine W_regP fun K hK => ?_ | refine W_regPD fun K hK => ?_ | refine W_ret ?_ | with_reducible refine callQ (cb) ?_ | with_reducible refine callQ (cd) ?_ | with_reducible refine callQ (cs) ?_ | with_reducible refine callQ (cc) ?_ | with_reducible refine callQ (ci) ?_ | with_reducible refine callQ (cp) ?_ | with_reducible refine callQ (co) ?_ | with_reducible refine callQ (ct) ?_ | with_reducible refine callQ (csb) ?_ | with_reducible refine callQ (a1) ?_ | with_reducible refine callQ (a2) ?_ | with_reducible refine callQ (cr) ?_ | with_reducible refine callQ (ca) ?_ | with_reducible refine callQ (cl) ?_ | with_reducible refine callQ (cw) ?_ | with_reducible refine callQ (cin) ?_ | with_reducible refine callQ (cn) ?_); simp [Fin, w1, w2, w3, w4, hgt, hlt]) | (with_reducible refine hK _ ?_; clear hK K) | (with_reducible refine goL_split (fun h => ?_) (fun h => ?_) <;> first | (exfalso; simp at h; first | done | omega | contradiction) | ((try simp at h); simp [w1, w2, w3, w4, hgt, hlt])) | with_reducible refine And.intro ?_ ?_ | with_reducible exact okay_rfl rfl | with_reducible assumption | (refine W_cond rfl (fun h => ?_) (fun h => ?_) <;> first | (exfalso; simp at h; first | done | omega | contradiction) | (exfalso; simp_all; done) | (try simp at h)) | omega)
  by_cases hA0 : AC = 0
  · subst hA0
    obtain ⟨h1, h2⟩ := b3 rfl
    cases h2
    have hlt : decide (AI ≤ id) = false := decide_eq_false (by omega)
    clear b2 b3 hA1
    repeat' (first | refine W_seq ?_ | refine W_skip ?_ | refine W_block ?_ | refine W_exit ?_ | refine pick_pos rfl ?_ | refine pick_neg rfl ?_ | ((first | refine W_regP fun K hK => ?_ | refine W_regPD fun K hK => ?_ | refine W_ret ?_ | with_reducible refine callQ (cb) ?_ | with_reducible refine callQ (cd) ?_ | with_reducible refine callQ (cs) ?_ | with_reducible refine callQ (cc) ?_ | with_reducible refine callQ (ci) ?_ | with_reducible refine callQ (cp) ?_ | with_reducible refine callQ (co) ?_ | with_reducible refine callQ (ct) ?_ | with_reducible refine callQ (csb) ?_ | with_reducible refine callQ (a1) ?_ | with_reducible refine callQ (a2) ?_ | with_reducible refine callQ (cr) ?_ | with_reducible refine callQ (ca) ?_ | with_reducible refine callQ (co2) ?_ | with_reducible refine callQ (cl) ?_ | with_reducible refine callQ (cw) ?_ | with_reducible refine callQ (cin) ?_ | with_reducible refine callQ (cn) ?_); simp [Fin, w1, w2, w3, w4, hgt, hlt]) | (with_reducible refine hK _ ?_; clear hK K) | (with_reducible refine goL_split (fun h => ?_) (fun h => ?_) <;> first | (exfalso; simp at h; first | done | omega | contradiction) | ((try simp at h); simp [w1, w2, w3, w4, hgt, hlt])) | with_reducible refine And.intro ?_ ?_ | with_reducible exact okay_rfl rfl | with_reducible assumption | (refine W_cond rfl (fun h => ?_) (fun h => ?_) <;> first | (exfalso; simp at h; first | done | omega | contradiction) | (exfalso; simp_all; done) | (try simp at h)) | omega)
  have f1 : (AC == 1) = false := by simp [hA1]
  have f0 : (AC == 0) = false := by simp [hA0]
  clear b2 b3 co2
  repeat' (first | refine W_seq ?_ | refine W_skip ?_ | refine W_block ?_ | refine W_exit ?_ | refine pick_pos rfl ?_ | refine pick_neg rfl ?_ | ((first | refine W_regP fun K hK => ?_ | refine W_regPD fun K hK => ?_ | refine W_ret ?_ | with_reducible refine callQ (cb) ?_ | with_reducible refine callQ (cd) ?_ | with_reducible refine callQ (cs) ?_ | with_reducible refine callQ (cc) ?_ | with_reducible refine callQ (ci) ?_ | with_reducible refine callQ (cp) ?_ | with_reducible refine callQ (co) ?_ | with_reducible refine callQ (ct) ?_ | with_reducible refine callQ (csb) ?_ | with_reducible refine callQ (a1) ?_ | with_reducible refine callQ (a2) ?_ | with_reducible refine callQ (cr) ?_ | with_reducible refine callQ (ca) ?_ | with_reducible refine callQ (cl) ?_ | with_reducible refine callQ (cw) ?_ | with_reducible refine callQ (cin) ?_ | with_reducible refine callQ (cn) ?_); simp [Fin, w1, w2, w3, w4, hgt, f1, f0]) | (with_reducible refine hK _ ?_; clear hK K) | (with_reducible refine goL_split (fun h => ?_) (fun h => ?_) <;> first | (exfalso; simp at h; first | done | omega | contradiction) | ((try simp at h); simp [w1, w2, w3, w4, hgt, f1, f0])) | with_reducible refine And.intro ?_ ?_ | with_reducible exact okay_rfl rfl | with_reducible assumption | (refine W_cond rfl (fun h => ?_) (fun h => ?_) <;> first | (exfalso; simp at h; first | done | omega | contradiction) | (exfalso; simp_all; done) | (try simp at h)) | omega)
end Go.Proofs.YtmihpclfdicfkaaDoor.Ab
