/-
  A part of a proof about the given program; what is proved is said where each theorem stands.
-/
import Derived.Test.YtoomonfpedjgoaaGreatDoorFrameA
import Derived.Test.YtoomonfpedjgoaaGreatDoorFrameB
import Derived.Test.YtoomonfpedjgoaaGreatDoorFrameC
import Derived.Test.YtoomonfpedjgoaaGreatDoorFrameD
import Derived.Test.YtoomonfpedjgoaaGreatDoorFrameE
import Derived.Test.YtoomonfpedjgoaaGreatDoorHead
import Derived.Test.YtoomonfpedjgoaaGreatDoorShelf
import Derived.Test.YtoomonfpedjgoaaGreatDoorPartA
import Derived.Test.YtoomonfpedjgoaaGreatDoorPartB
import Derived.Test.YtoomonfpedjgoaaGreatDoorPartC
import Derived.Test.YtoomonfpedjgoaaGreatDoorPartD
import Derived.Test.YtoomonfpedjgoaaGreatDoorPartE
namespace Go.Proofs
end Go.Proofs
set_option linter.unusedSimpArgs false
set_option linter.unusedVariables false
set_option maxRecDepth 100000
set_option maxHeartbeats 2000000
namespace Go.Proofs.YtoomonfpedjgoaaGreatDoor.Ab
open Go.Proofs
variable {GG : GV}
set_option maxHeartbeats 16000000 in
theorem l16DrawWorld_w [MaxL GG] (c : Cur) (n : Int) (hc : c.good) (hn : n ≤ 60) : ∃ a : GWorld × Cur, (a.2.good ∧ DrOkW a.1) ∧ Valid PP GG 83 [.box c.o, .d (.int .i64 n)] (.agg a.1.o) [some (.box a.2.o), none] := by
 refine cvD Tryz.func83 (α := GWorld × Cur) 1 _ (fun a => [.agg a.1.o]) _ (fun _ => rfl) ?_
 refine u_79 ?_
 refine u_79 ?_
 refine D_norm [0, 1, 4, 5] (s1 := ⟨[], [(0, .ptr 0 0), (1, .d (.int .i64 n)), (4, .ptr 1 0), (5, .ptr 2 0)], [(0, .box (curA c)), (1, lvZ), (2, .box [.d (.int .i64 0), .d (.int .i64 1), .d (.int .i64 0), .nil 1 7, .nil 0 6, .nil 0 2, .d (.int .i64 0), .d (.int .i64 0), .nil 0 3, .nil 0 2])], 3⟩) ?_ ?_
 ·exact u_87
 refine D_nilP 5 3 rfl rfl rfl ?_
 refine D_nilP 5 4 rfl rfl rfl ?_
 refine D_nilP 5 5 rfl rfl rfl ?_
 refine D_nilP 5 8 rfl rfl rfl ?_
 refine D_nilP 5 9 rfl rfl rfl ?_
 refine D_norm [0, 1, 4, 5] (s1 := ⟨[], [(0, .ptr 0 0), (1, .d (.int .i64 n)), (4, .ptr 1 0), (5, .ptr 2 0)], dwOs c world0 0 0, 8⟩) ?_ ?_
 ·exact u_88
 refine D_cut [0, 4, 5] (fun st' => ∃ (W : GWorld) (u : Cur) (i : Nat), i ≤ 60 ∧ DwOk W i ∧ u.good ∧ st' = ⟨[], [(0, .ptr 0 0), (4, .ptr 1 0), (5, .ptr 2 0)], dwOs u W 0 0, 8⟩) ?_ ?_
 ·refine u_79 ?_
  refine D_block ?_
  refine D_loop (fun m st => ∃ i : Nat, m = n.toNat - i ∧ i ≤ n.toNat ∧ ∃ (W : GWorld) (u : Cur), DwOk W i ∧ u.good ∧ st = ⟨[], [(0, .ptr 0 0), (1, .d (.int .i64 n)), (4, .ptr 1 0), (5, .ptr 2 0), (6, .d (.int .i64 i))], dwOs u W 0 0, 8⟩) _ ⟨0, rfl, by omega, world0, c, ⟨⟨lived_zero, show (0 : Int) ≤ 0 by omega, show (1 : Int) ≤ 0 + 1 by omega, show (0 : Int) ≤ 6 * 0 by omega⟩, Nat.le_refl 0⟩, hc, ?_⟩ ?_
  ·exact u_88
  rintro m st ⟨i, rfl, hi, W, u, hW, hu, rfl⟩
  by_cases hlt : (i : Int) < n
  rotate_left
  ·have hq : ((i : Int) < n) = False := by simp; omega
   refine u_82 hq ?_
   refine ⟨W, u, i, by omega, hW, hu, ?_⟩
   exact u_87
  have hq : ((i : Int) < n) = True := by simp; omega
  have hwi : IntKind.i64.wrap ((i : Int) + 1) = (i : Int) + 1 := wrap_id (by omega) (by omega)
  have hwb := hW.lv.lived.ok
  have hfit := fitW_of_ok hwb
  have hfo := ((world_iff W).1 hwb).fo
  have hft : W.fForest.fTokens.length ≤ 1048576 := hfit.1.1
  have hfl : W.fBook.fLeases.length ≤ 1048576 := hfit.2.1.1
  have hnx := ((world_iff W).1 hwb).next
  have hnx2 := hW.lv.next
  have hsm := forest_sm hfo
  have hi1 := ind_rToken W.fForest.fTokens
  have hi2 := ind_rLease W.fBook.fLeases
  have hi3 := ind_rUser W.fFar.fUsers
  have hi4 := ind_rJob W.fQueue.fJobs
  have hi5 := ind_rOwned W.fOwned
  have c1 := lBelow_v (GG := GG) u 9 hu
  have g1 := lBelow_good hu 9
  have r1 := lBelow_rng u (n := 9) (by omega)
  generalize lBelow u 9 = b1 at *
  obtain ⟨k, u1⟩ := b1
  dsimp only at g1 r1 c1
  refine D_seq (D_seq (?_))
  apply D_regS
  ·intro K hK
   simp [hq]
   repeat' (first | with_reducible exact hK | (with_reducible refine goL_split (fun _ => ?_) (fun _ => ?_) <;> simp [hq]) | with_reducible refine And.intro ?_ ?_ | with_reducible exact okay_rfl rfl | with_reducible assumption | omega)
  refine D_cond rfl (fun _ => D_skip ?_) (fun h => by simp at h)
  refine D_seq (D_block (D_seq ?_))
  refine u_80 (Z1 c1) ?_
  refine D_norm [0, 1, 4, 5, 6, 30] (s1 := ⟨[], [(0, .ptr 0 0), (1, .d (.int .i64 n)), (4, .ptr 1 0), (5, .ptr 2 0), (6, .d (.int .i64 i)), (30, .d (.int .i64 k))], dwOs u1 W 0 0, 8⟩) ?_ ?_
  ·exact u_87
  clear c1 hu u
  have hdone : ∀ (W' : GWorld) (u' : Cur), DwOk W' (i + 1) → u'.good → ∀ st' : St, (st' = ⟨[], [(0, .ptr 0 0), (1, .d (.int .i64 n)), (4, .ptr 1 0), (5, .ptr 2 0), (6, .d (.int .i64 ((i : Int) + 1)))], dwOs u' W' 0 0, 8⟩) → ∃ m, m < n.toNat - i ∧ ∃ j : Nat, m = n.toNat - j ∧ j ≤ n.toNat ∧ ∃ (W : GWorld) (u : Cur), DwOk W j ∧ u.good ∧ st' = ⟨[], [(0, .ptr 0 0), (1, .d (.int .i64 n)), (4, .ptr 1 0), (5, .ptr 2 0), (6, .d (.int .i64 j))], dwOs u W 0 0, 8⟩ := fun W' u' h1 h2 st' e => ⟨_, by omega, i + 1, rfl, by omega, W', u', h1, h2, e⟩
  by_cases k234 : k = 2 ∨ k = 3 ∨ k = 4
  ·obtain ⟨⟨id, u2⟩, g2, c2⟩ := l08DrawId_w (GG := GG) u1 W.fForest g1 hft
   dsimp only at g2 c2
   have c3 := lBelow_v (GG := GG) u2 20 g2
   have g3 := lBelow_good g2 20
   have r3 := lBelow_rng u2 (n := 20) (by omega)
   generalize lBelow u2 20 = b3 at *
   obtain ⟨t, u3⟩ := b3
   dsimp only at g3 c3 r3
   have hw : IntKind.i64.wrap (1 + t) = 1 + t := wrap_id (by omega) (by omega)
   have c4 := s_GrantUser_ok (GG := GG) W id ⟨[100, 98], [117], 1 + t, 60⟩ 7 [100, 98, 47, 97] hfit (by simp) (by simp) (by simp)
   have hD := dw_gu hW (by omega) id ⟨[100, 98], [117], 1 + t, 60⟩ 7 [100, 98, 47, 97]
   generalize guW W id ⟨[100, 98], [117], 1 + t, 60⟩ 7 [100, 98, 47, 97] = Z at *
   obtain ⟨Zn, Zx, Zl, ⟨Zf⟩, ⟨Zb⟩, ⟨Zu, Zfl, Zfm⟩, ⟨Zq⟩, Zo⟩ := Z
   have hj1 := ind_rToken Zf
   have hj2 := ind_rLease Zb
   have hj3 := ind_rUser Zu
   have hj4 := ind_rJob Zq
   have hj5 := ind_rOwned Zo
   try dsimp only at *
   generalize guU W id ⟨[100, 98], [117], 1 + t, 60⟩ 7 [100, 98, 47, 97] = U at *
   generalize guI W id ⟨[100, 98], [117], 1 + t, 60⟩ 7 [100, 98, 47, 97] = I at *
   generalize guC W id ⟨[100, 98], [117], 1 + t, 60⟩ 7 [100, 98, 47, 97] = CC at *
   obtain ⟨v1, v2⟩ := U
   try dsimp only at *
   rcases k234 with rfl | rfl | rfl
   ·refine u_78 hw (Z3 c2 c3 c4) ?_
    refine hdone ⟨Zn, Zx, Zl, ⟨Zf⟩, ⟨Zb⟩, ⟨Zu, Zfl, Zfm⟩, ⟨Zq⟩, Zo⟩ u3 hD g3 _ ?_
    exact u_74 hwi
   ·refine u_78 hw (Z3 c2 c3 c4) ?_
    refine hdone ⟨Zn, Zx, Zl, ⟨Zf⟩, ⟨Zb⟩, ⟨Zu, Zfl, Zfm⟩, ⟨Zq⟩, Zo⟩ u3 hD g3 _ ?_
    exact u_74 hwi
   ·refine u_78 hw (Z3 c2 c3 c4) ?_
    refine hdone ⟨Zn, Zx, Zl, ⟨Zf⟩, ⟨Zb⟩, ⟨Zu, Zfl, Zfm⟩, ⟨Zq⟩, Zo⟩ u3 hD g3 _ ?_
    exact u_74 hwi
  by_cases k5 : k = 5
  ·obtain ⟨⟨id, u2⟩, g2, c2⟩ := l08DrawId_w (GG := GG) u1 W.fForest g1 hft
   dsimp only at g2 c2
   have c3 := lBelow_v (GG := GG) u2 20 g2
   have g3 := lBelow_good g2 20
   have r3 := lBelow_rng u2 (n := 20) (by omega)
   generalize lBelow u2 20 = b3 at *
   obtain ⟨t, u3⟩ := b3
   dsimp only at g3 c3 r3
   have hw : IntKind.i64.wrap (1 + t) = 1 + t := wrap_id (by omega) (by omega)
   have c4 := s_GrantLease_ok (GG := GG) W id [107, 118, 47, 98] (1 + t) 30 hfit (by simp)
   have hD := dw_grant hW id [107, 118, 47, 98] (1 + t) 30
   generalize grantW W id [107, 118, 47, 98] (1 + t) 30 = Z at *
   obtain ⟨Zn, Zx, Zl, ⟨Zf⟩, ⟨Zb⟩, ⟨Zu, Zfl, Zfm⟩, ⟨Zq⟩, Zo⟩ := Z
   have hj1 := ind_rToken Zf
   have hj2 := ind_rLease Zb
   have hj3 := ind_rUser Zu
   have hj4 := ind_rJob Zq
   have hj5 := ind_rOwned Zo
   try dsimp only at *
   generalize grantI W id [107, 118, 47, 98] (1 + t) 30 = I at *
   subst k5
   refine u_78 hw (Z3 c2 c3 c4) ?_
   refine hdone ⟨Zn, Zx, Zl, ⟨Zf⟩, ⟨Zb⟩, ⟨Zu, Zfl, Zfm⟩, ⟨Zq⟩, Zo⟩ u3 hD g3 _ ?_
   exact u_74 hwi
  by_cases k6 : k = 6
  ·obtain ⟨⟨id, u2⟩, g2, c2⟩ := l09DrawId_w (GG := GG) u1 W.fBook g1 hfl
   dsimp only at g2 c2
   have c4 := s_CutLease_ok (GG := GG) W id hfit
   have hD := dw_cut hW id
   generalize cutW W id = Z at *
   obtain ⟨Zn, Zx, Zl, ⟨Zf⟩, ⟨Zb⟩, ⟨Zu, Zfl, Zfm⟩, ⟨Zq⟩, Zo⟩ := Z
   have hj1 := ind_rToken Zf
   have hj2 := ind_rLease Zb
   have hj3 := ind_rUser Zu
   have hj4 := ind_rJob Zq
   have hj5 := ind_rOwned Zo
   try dsimp only at *
   generalize cutB W id = B at *
   subst k6
   refine u_76 (Z2 c2 c4) ?_
   refine hdone ⟨Zn, Zx, Zl, ⟨Zf⟩, ⟨Zb⟩, ⟨Zu, Zfl, Zfm⟩, ⟨Zq⟩, Zo⟩ u2 hD g2 _ ?_
   exact u_74 hwi
  by_cases k7 : k = 7
  ·have c3 := lBelow_v (GG := GG) u1 6 g1
   have g3 := lBelow_good g1 6
   have r3 := lBelow_rng u1 (n := 6) (by omega)
   generalize lBelow u1 6 = b3 at *
   obtain ⟨t, u3⟩ := b3
   dsimp only at g3 c3 r3
   have hnow := ((world_iff W).1 hwb).now
   have hw : IntKind.i64.wrap (W.fNow + t) = W.fNow + t := wrap_id (by omega) (by omega)
   have c4 := s_PassTime_ok (GG := GG) W (W.fNow + t) hfit
   have hD := dw_pt hW (d := t) (by omega)
   have ht1 := ind_ints (ptT W (W.fNow + t)).fTokens
   have ht2 := ind_ints (ptT W (W.fNow + t)).fLeases
   have ht3 := ind_strs (ptT W (W.fNow + t)).fGone
   have ht4 := ind_strs (ptT W (W.fNow + t)).fGiven
   generalize ptW W (W.fNow + t) = Z at *
   obtain ⟨Zn, Zx, Zl, ⟨Zf⟩, ⟨Zb⟩, ⟨Zu, Zfl, Zfm⟩, ⟨Zq⟩, Zo⟩ := Z
   have hj1 := ind_rToken Zf
   have hj2 := ind_rLease Zb
   have hj3 := ind_rUser Zu
   have hj4 := ind_rJob Zq
   have hj5 := ind_rOwned Zo
   try dsimp only at *
   generalize ptT W (W.fNow + t) = T at *
   generalize ptB W (W.fNow + t) = B at *
   obtain ⟨T1, T2, T3, T4⟩ := T
   try dsimp only at *
   subst k7
   refine u_78 hw (Z2 c3 c4) ?_
   refine hdone ⟨Zn, Zx, Zl, ⟨Zf⟩, ⟨Zb⟩, ⟨Zu, Zfl, Zfm⟩, ⟨Zq⟩, Zo⟩ u3 hD g3 _ ?_
   exact u_74 hwi
  by_cases k8 : k = 8
  ·have c2 := lOnce_v (GG := GG) u1 2 g1
   have g2 := lOnce_good g1 2
   generalize lOnce u1 2 = o at *
   obtain ⟨o1, u2⟩ := o
   dsimp only at g2
   cases o1
   ·obtain ⟨⟨id, u3⟩, g3, c3⟩ := l08DrawId_w (GG := GG) u2 W.fForest g2 hft
    dsimp only at g3 c3
    have c4 := s_CutToken_ok (GG := GG) W id hfit
    have hD := dw_ct hW id
    have ht1 := ind_ints (ctG W id)
    generalize ctW W id = Z at *
    obtain ⟨Zn, Zx, Zl, ⟨Zf⟩, ⟨Zb⟩, ⟨Zu, Zfl, Zfm⟩, ⟨Zq⟩, Zo⟩ := Z
    have hj1 := ind_rToken Zf
    have hj2 := ind_rLease Zb
    have hj3 := ind_rUser Zu
    have hj4 := ind_rJob Zq
    have hj5 := ind_rOwned Zo
    try dsimp only at *
    generalize ctG W id = T at *
    subst k8
    refine u_76 (Z3 c2 c3 c4) ?_
    refine hdone ⟨Zn, Zx, Zl, ⟨Zf⟩, ⟨Zb⟩, ⟨Zu, Zfl, Zfm⟩, ⟨Zq⟩, Zo⟩ u3 hD g3 _ ?_
    exact u_74 hwi
   ·have c3 := lBelow_v (GG := GG) u2 6 g2
    have g3 := lBelow_good g2 6
    have r3 := lBelow_rng u2 (n := 6) (by omega)
    generalize lBelow u2 6 = b3 at *
    obtain ⟨t, u3⟩ := b3
    dsimp only at g3 c3 r3
    have hD := dw_fail hW (k := t) r3.1 (by omega)
    subst k8
    refine u_76 (Z2 c2 c3) ?_
    refine hdone { W with fFar := { W.fFar with fFail := t } } u3 hD g3 _ ?_
    exact u_74 hwi
  have k01 : k = 0 ∨ k = 1 := by omega
  obtain ⟨⟨⟨y1, y2, y3, y4, y5, y6, y7⟩, u2⟩, ⟨g2, s1, s2⟩, c2⟩ := l08DrawToken_w (GG := GG) u1 W.fForest g1 hft hsm
  dsimp only at g2 s1 s2 c2
  have hy := ind_strs y3
  clear k234 k5 k6 k7 k8 hsm
  refine D_block ?_
  refine D_cut [0, 1, 4, 5, 6, 31] (fun st' => st' = ⟨[], [(0, .ptr 0 0), (1, .d (.int .i64 n)), (4, .ptr 1 0), (5, .ptr 2 0), (6, .d (.int .i64 i)), (31, .d (.bool true))], dwOs u1 W 0 0, 8⟩) ?_ ?_
  ·rcases k01 with rfl | rfl
   ·refine u_73 ?_
    exact u_87
   ·refine u_73 ?_
    exact u_87
  rintro st rfl
  refine D_cond rfl (fun _ => D_seq ?_) (fun h => by simp at h)
  refine u_80 (Z1 c2) ?_
  refine u_79 ?_
  refine u_79 ?_
  clear c2
  refine D_cut [0, 1, 4, 5, 6, 7] (fun st' => ∃ u : Cur, u.good ∧ ∃ y5 y6 : Int, st' = ⟨[], [(0, .ptr 0 0), (1, .d (.int .i64 n)), (4, .ptr 1 0), (5, .ptr 2 0), (6, .d (.int .i64 i)), (7, .ptr 3 0)], [(0, .box (curA u)), (1, lvZ), (2, .box [.d (.int .i64 W.fNow), .d (.int .i64 W.fNext), .d (.int .i64 W.fLost), .sl 4, .sl 5, .sl 6, .d (.int .i64 W.fFar.fFail), .d (.int .i64 W.fFar.fMade), .sl 7, .sl 8]), (3, .box [.d (.int .i64 W.fNext), .d (.int .i64 y2), .sl 9, .d (.int .i64 W.fNow), .d (.int .i64 y5), .d (.int .i64 y6), .d (.int .i64 y7)]), (4, .arr 0 1 7 (rToken W.fForest.fTokens)), (5, .arr 0 0 6 (rLease W.fBook.fLeases)), (6, .arr 0 0 2 (rUser W.fFar.fUsers)), (7, .arr 0 0 3 (rJob W.fQueue.fJobs)), (8, .arr 0 0 2 (rOwned W.fOwned)), (9, .arr 0 0 1 (strsD y3))], 10⟩) ?_ ?_
  ·by_cases h5 : y5 = 0
   ·have q5 : (y5 != 0) = false := by simpa using h5
    refine u_82 q5 ?_
    refine ⟨u2, g2, ?_⟩
    exact u_87
   ·have q5 : (y5 != 0) = true := by simpa using h5
    have c3 := lBelow_v (GG := GG) u2 40 g2
    have g3 := lBelow_good g2 40
    generalize lBelow u2 40 = b3 at *
    have c4 := lBelow_v (GG := GG) b3.2 30 g3
    have g4 := lBelow_good g3 30
    generalize lBelow b3.2 30 = b4 at *
    obtain ⟨l, hl⟩ : ∃ l : List Int, l = [0, IntKind.i64.wrap (IntKind.i64.wrap (IntKind.i64.wrap (W.fNow + 1) + b3.1) + b4.1)] := ⟨_, rfl⟩
    have c5 := lPickI_v (GG := GG) b4.2 l g4 (by rw [hl]; simp) (by rw [hl]; simp)
    have g5 := lPick_good g4 (0 : Int) l
    generalize lPick b4.2 0 l = b5 at *
    rw [hl] at c5
    simp only [intsD, List.map_cons, List.map_nil] at c5
    refine u_78 q5 (Z3 c3 c4 c5) ?_
    refine ⟨b5.2, g5, ?_⟩
    exact u_87
  rintro st ⟨u, hu, y5, y6, rfl⟩
  have cm := s_MakeToken_ok (GG := GG) W.fForest ⟨W.fNext, y2, y3, W.fNow, y5, y6, y7⟩ hfit.1 ⟨by dsimp only; omega, fun s hs => by have := s2 s hs; omega⟩ hfo
  have hD := fun hc => dw_mk hW (by omega) (t := ⟨W.fNext, y2, y3, W.fNow, y5, y6, y7⟩) hc rfl
  have hw3 : IntKind.i64.wrap (W.fNext + 1) = W.fNext + 1 := wrap_id (by omega) (by omega)
  generalize mkC W.fForest ⟨W.fNext, y2, y3, W.fNow, y5, y6, y7⟩ = CC at *
  generalize mkF W.fForest ⟨W.fNext, y2, y3, W.fNow, y5, y6, y7⟩ = FF at *
  obtain ⟨ff⟩ := FF
  have hj1 := ind_rToken ff
  try dsimp only at *
  by_cases hc : CC = 0
  ·have hD2 := hD hc
   clear hD
   subst hc
   refine u_78 hw3 (Z1 cm) ?_
   refine hdone { W with fForest := ⟨ff⟩, fNext := W.fNext + 1 } u hD2 hu _ ?_
   exact u_74 hwi
  ·have hcq : (CC == 0) = false := by simpa using hc
   refine u_78 hcq (Z1 cm) ?_
   refine hdone W u (dw_up hW) hu _ ?_
   exact u_74 hwi
 rintro st ⟨W, u, i, hi, hW, hu, rfl⟩
 obtain ⟨d1, d2, d3, d4, d5⟩ := dw_dr hW hi
 have hol := hW.ol
 have hi1 := ind_rToken W.fForest.fTokens
 have hi2 := ind_rLease W.fBook.fLeases
 have hi3 := ind_rUser W.fFar.fUsers
 have hi4 := ind_rJob W.fQueue.fJobs
 have hi5 := ind_rOwned W.fOwned
 have c1 := lOnce_v (GG := GG) u 20 hu
 have g1 := lOnce_good hu 20
 generalize lOnce u 20 = o at *
 obtain ⟨o1, u1⟩ := o
 dsimp only at g1
 cases o1
 ·refine u_76 (Z1 c1) ?_
  exact ⟨(W, u1), ⟨g1, d1, d2, d3, d4, d5⟩, by simp [Fin]⟩
 have c2 := lBelow_v (GG := GG) u1 5 g1
 have g2 := lBelow_good g1 5
 have r2 := lBelow_rng u1 (n := 5) (by omega)
 generalize lBelow u1 5 = b2 at *
 obtain ⟨k, u2⟩ := b2
 dsimp only at g2 r2 c2
 by_cases k0 : k = 0
 ·obtain ⟨l, hl⟩ : ∃ l : List Int, l = [0, 1, 1000000000, 1000000001] := ⟨_, rfl⟩
  have c3 := lPickI_v (GG := GG) u2 l g2 (by rw [hl]; simp) (by rw [hl]; simp)
  have g3 := lPick_good g2 (0 : Int) l
  generalize lPick u2 0 l = b3 at *
  rw [hl] at c3
  simp only [intsD, List.map_cons, List.map_nil] at c3
  repeat' (first | refine D_ret ?_ | refine D_seq ?_ | refine D_skip ?_ | refine D_block ?_ | refine D_exit ?_ | refine pick_pos rfl ?_ | refine pick_neg rfl ?_ | ((first | refine D_regP fun K hK => ?_ | refine D_regPD fun K hK => ?_ | with_reducible refine callQ (c1) ?_ | with_reducible refine callQ (c2) ?_ | with_reducible refine callQ (c3) ?_); simp [Fin, k0]) | (with_reducible refine hK _ ?_; clear hK K) | (with_reducible refine goL_split (fun h => ?_) (fun h => ?_) <;> first | (exfalso; simp at h; first | done | omega | contradiction) | ((try simp at h); simp [k0])) | with_reducible refine And.intro ?_ ?_ | with_reducible exact okay_rfl rfl | with_reducible assumption | (refine D_cond rfl (fun h => ?_) (fun h => ?_) <;> first | (exfalso; simp at h; first | done | omega | contradiction) | (exfalso; simp_all; done) | (try simp at h)) | omega)
  exact ⟨({ W with fNext := b3.1 }, b3.2), ⟨g3, d1, d2, d3, d4, d5⟩, by simp [Fin]⟩
 by_cases k1 : k = 1
 ·obtain ⟨l, hl⟩ : ∃ l : List Int, l = [-1, 1000000000, 1000000001] := ⟨_, rfl⟩
  have c3 := lPickI_v (GG := GG) u2 l g2 (by rw [hl]; simp) (by rw [hl]; simp)
  have g3 := lPick_good g2 (0 : Int) l
  generalize lPick u2 0 l = b3 at *
  rw [hl] at c3
  simp only [intsD, List.map_cons, List.map_nil] at c3
  repeat' (first | refine D_ret ?_ | refine D_seq ?_ | refine D_skip ?_ | refine D_block ?_ | refine D_exit ?_ | refine pick_pos rfl ?_ | refine pick_neg rfl ?_ | ((first | refine D_regP fun K hK => ?_ | refine D_regPD fun K hK => ?_ | with_reducible refine callQ (c1) ?_ | with_reducible refine callQ (c2) ?_ | with_reducible refine callQ (c3) ?_); simp [Fin, k1]) | (with_reducible refine hK _ ?_; clear hK K) | (with_reducible refine goL_split (fun h => ?_) (fun h => ?_) <;> first | (exfalso; simp at h; first | done | omega | contradiction) | ((try simp at h); simp [k1])) | with_reducible refine And.intro ?_ ?_ | with_reducible exact okay_rfl rfl | with_reducible assumption | (refine D_cond rfl (fun h => ?_) (fun h => ?_) <;> first | (exfalso; simp at h; first | done | omega | contradiction) | (exfalso; simp_all; done) | (try simp at h)) | omega)
  exact ⟨({ W with fNow := b3.1 }, b3.2), ⟨g3, d1, d2, d3, d4, d5⟩, by simp [Fin]⟩
 by_cases k2 : k = 2
 ·obtain ⟨l, hl⟩ : ∃ l : List Int, l = [-1, 1000000000, 1000000001] := ⟨_, rfl⟩
  have c3 := lPickI_v (GG := GG) u2 l g2 (by rw [hl]; simp) (by rw [hl]; simp)
  have g3 := lPick_good g2 (0 : Int) l
  generalize lPick u2 0 l = b3 at *
  rw [hl] at c3
  simp only [intsD, List.map_cons, List.map_nil] at c3
  repeat' (first | refine D_ret ?_ | refine D_seq ?_ | refine D_skip ?_ | refine D_block ?_ | refine D_exit ?_ | refine pick_pos rfl ?_ | refine pick_neg rfl ?_ | ((first | refine D_regP fun K hK => ?_ | refine D_regPD fun K hK => ?_ | with_reducible refine callQ (c1) ?_ | with_reducible refine callQ (c2) ?_ | with_reducible refine callQ (c3) ?_); simp [Fin, k2]) | (with_reducible refine hK _ ?_; clear hK K) | (with_reducible refine goL_split (fun h => ?_) (fun h => ?_) <;> first | (exfalso; simp at h; first | done | omega | contradiction) | ((try simp at h); simp [k2])) | with_reducible refine And.intro ?_ ?_ | with_reducible exact okay_rfl rfl | with_reducible assumption | (refine D_cond rfl (fun h => ?_) (fun h => ?_) <;> first | (exfalso; simp at h; first | done | omega | contradiction) | (exfalso; simp_all; done) | (try simp at h)) | omega)
  exact ⟨({ W with fLost := b3.1 }, b3.2), ⟨g3, d1, d2, d3, d4, d5⟩, by simp [Fin]⟩
 by_cases k3 : k = 3
 ·have hap : rOwned (W.fOwned ++ [⟨999, [120]⟩]) = rOwned W.fOwned ++ [[.int .i64 999, .str [120]]] := by unfold rOwned; rw [List.map_append]; rfl
  have hrl := rOwned_len W.fOwned
  repeat' (first | refine D_ret ?_ | refine D_seq ?_ | refine D_skip ?_ | refine D_block ?_ | refine D_exit ?_ | refine pick_pos rfl ?_ | refine pick_neg rfl ?_ | ((first | refine D_regP fun K hK => ?_ | refine D_regPD fun K hK => ?_ | with_reducible refine callQ (c1) ?_ | with_reducible refine callQ (c2) ?_); simp [Fin, k3, limit]) | (with_reducible refine hK _ ?_; clear hK K) | (with_reducible refine goL_split (fun h => ?_) (fun h => ?_) <;> first | (exfalso; simp at h; first | done | omega | contradiction) | ((try simp at h); simp [k3, limit])) | with_reducible refine And.intro ?_ ?_ | with_reducible exact okay_rfl rfl | with_reducible assumption | (refine D_cond rfl (fun h => ?_) (fun h => ?_) <;> first | (exfalso; simp at h; first | done | omega | contradiction) | (exfalso; simp_all; done) | (try simp at h)) | omega)
  refine ⟨({ W with fOwned := W.fOwned ++ [⟨999, [120]⟩] }, u2), ⟨g2, ⟨d1.1, d1.2.1, d1.2.2.1, d1.2.2.2.1, by simp only [List.length_append, List.length_cons, List.length_nil]; omega, fun o ho => ?_⟩, fun o ho => ?_, d3, by simp only [List.length_append, List.length_cons, List.length_nil]; omega, d5⟩, by simp [Fin, hap]⟩
  ·rcases List.mem_append.1 ho with ho | ho
   ·exact d1.2.2.2.2.2 o ho
   ·simp at ho; subst ho; simp
  ·rcases List.mem_append.1 ho with ho | ho
   ·exact d2 o ho
   ·simp at ho; subst ho; left; simp
 have k4 : k = 4 := by omega
 clear k0 k1 k2 k3
 obtain ⟨Wn, Wx, Wl, Wf, Wb, Wfa, Wq, Wo⟩ := W
 dsimp only at *
 cases Wo with
 | nil =>
  repeat' (first | refine D_ret ?_ | refine D_seq ?_ | refine D_skip ?_ | refine D_block ?_ | refine D_exit ?_ | refine pick_pos rfl ?_ | refine pick_neg rfl ?_ | ((first | refine D_regP fun K hK => ?_ | refine D_regPD fun K hK => ?_ | with_reducible refine callQ (c1) ?_ | with_reducible refine callQ (c2) ?_); simp [Fin, k4, rOwned]) | (with_reducible refine hK _ ?_; clear hK K) | (with_reducible refine goL_split (fun h => ?_) (fun h => ?_) <;> first | (exfalso; simp at h; first | done | omega | contradiction) | ((try simp at h); simp [k4, rOwned])) | with_reducible refine And.intro ?_ ?_ | with_reducible exact okay_rfl rfl | with_reducible assumption | (refine D_cond rfl (fun h => ?_) (fun h => ?_) <;> first | (exfalso; simp at h; first | done | omega | contradiction) | (exfalso; simp_all; done) | (try simp at h)) | omega)
  exact ⟨(⟨Wn, Wx, Wl, Wf, Wb, Wfa, Wq, []⟩, u2), ⟨g2, d1, d2, d3, d4, d5⟩, by simp [Fin, rOwned]⟩
 | cons w0 wr =>
  obtain ⟨m, hm⟩ : ∃ m, (w0 :: wr).length = m + 1 := ⟨wr.length, rfl⟩
  have hg := List.getElem?_eq_getElem (show m < (w0 :: wr).length by omega)
  have hmm := List.getElem_mem (show m < (w0 :: wr).length by omega)
  have hml : m < (w0 :: wr).length := by omega
  generalize (w0 :: wr)[m] = x at hg hmm
  have hz : (w0 :: wr)[0]? = some w0 := rfl
  have hp : ((0 : Int) < (((w0 :: wr).length : Nat) : Int)) = True := by simp
  have hw : IntKind.i64.wrap ((((w0 :: wr).length : Nat) : Int) - 1) = (m : Int) := by rw [wrap_id (by omega) (by omega)]; omega
  have hset : ∀ s, (rOwned (w0 :: wr)).set 0 [.int .i64 w0.fLease, .str s] = rOwned (⟨w0.fLease, s⟩ :: wr) := fun s => rfl
  have hlen : (w0 :: wr).length = wr.length + 1 := rfl
  have hx1 := d1.2.2.2.2.2 x hmm
  have hx2 := d2 x hmm
  obtain ⟨l, hl⟩ : ∃ l : List (List UInt8), l = [[], [122, 122], x.fName] := ⟨_, rfl⟩
  have c3 := lPickT_v (GG := GG) u2 l g2 (by rw [hl]; simp) (by rw [hl]; simp)
  have g3 := lPick_good g2 ([] : List UInt8) l
  have m3 := lPick_mem u2 ([] : List UInt8) (l := l) (by rw [hl]; simp)
  generalize lPick u2 [] l = b3 at *
  rw [hl] at c3 m3
  simp only [strsD, List.map_cons, List.map_nil] at c3
  simp only [List.mem_cons, List.not_mem_nil, or_false] at m3
  have hres : ⟨Wn, Wx, Wl, Wf, Wb, Wfa, Wq, ⟨w0.fLease, b3.1⟩ :: wr⟩ = (⟨Wn, Wx, Wl, Wf, Wb, Wfa, Wq, ⟨w0.fLease, b3.1⟩ :: wr⟩ : GWorld) := rfl
  have hi6 := ind_rOwned (⟨w0.fLease, b3.1⟩ :: wr)
  have hD : DrOkW ⟨Wn, Wx, Wl, Wf, Wb, Wfa, Wq, ⟨w0.fLease, b3.1⟩ :: wr⟩ := by
   refine ⟨⟨d1.1, d1.2.1, d1.2.2.1, d1.2.2.2.1, d1.2.2.2.2.1, fun o ho => ?_⟩, fun o ho => ?_, d3, d4, d5⟩
   ·rcases List.mem_cons.1 ho with rfl | ho
    ·rcases m3 with e | e | e <;> (dsimp only; rw [e])
     ·simp
     ·simp
     ·exact hx1
    ·exact d1.2.2.2.2.2 o (List.mem_cons_of_mem _ ho)
   ·rcases List.mem_cons.1 ho with rfl | ho
    ·rcases m3 with e | e | e <;> (dsimp only; rw [e])
     ·left; simp
     ·left; simp
     ·exact hx2
    ·exact d2 o (List.mem_cons_of_mem _ ho)
  generalize w0 :: wr = Wo at *
  obtain ⟨a1, a2⟩ := w0
  obtain ⟨x1, x2⟩ := x
  dsimp only at *
  repeat' (first | refine D_ret ?_ | refine D_seq ?_ | refine D_skip ?_ | refine D_block ?_ | refine D_exit ?_ | refine pick_pos rfl ?_ | refine pick_neg rfl ?_ | ((first | refine D_regP fun K hK => ?_ | refine D_regPD fun K hK => ?_ | with_reducible refine callQ (c1) ?_ | with_reducible refine callQ (c2) ?_ | with_reducible refine callQ (c3) ?_); simp [Fin, k4, hp, hg, hz, hw, hset]) | (with_reducible refine hK _ ?_; clear hK K) | (with_reducible refine goL_split (fun h => ?_) (fun h => ?_) <;> first | (exfalso; simp at h; first | done | omega | contradiction) | ((try simp at h); simp [k4, hp, hg, hz, hw, hset])) | with_reducible refine And.intro ?_ ?_ | with_reducible exact okay_rfl rfl | with_reducible assumption | (refine D_cond rfl (fun h => ?_) (fun h => ?_) <;> first | (exfalso; simp at h; first | done | omega | contradiction) | (exfalso; simp_all; done) | (try simp at h)) | omega)
  exact ⟨(⟨Wn, Wx, Wl, Wf, Wb, Wfa, Wq, ⟨a1, b3.1⟩ :: wr⟩, b3.2), ⟨g3, hD⟩, by simp [Fin]⟩
theorem l16DrawOne_w [MaxL GG] (code : List UInt8) (h : code.length ≤ 1048577) : ∃ a : GWorld × Cur, (a.2.good ∧ DrOkW a.1) ∧ Valid PP GG 39 [.d (.slc 1 (bytesD code))] (.tup [.box a.2.o, .agg a.1.o]) [none] := by
 refine cvD Tryz.func39 (α := GWorld × Cur) 2 _ (fun a => [.box a.2.o, .agg a.1.o]) _ (fun _ => rfl) ?_
 have c1 := lNew_v (GG := GG) code h
 have g1 := lNew_good h
 have c2 := lSize_v (GG := GG) code 40 h
 have z1 : lSize code.length 40 ≤ 40 := by unfold lSize; split <;> omega
 generalize lNew code = u at *
 generalize lSize code.length 40 = z at *
 have c3 := lBelow_v (GG := GG) u z g1
 have g2 := lBelow_good g1 z
 have r2 := lBelow_rng0 u z
 generalize lBelow u z = n at *
 obtain ⟨n, u2⟩ := n
 dsimp only at *
 obtain ⟨⟨W, u3⟩, ⟨g3, d1⟩, c4⟩ := l16DrawWorld_w (GG := GG) u2 n g2 (by split at r2 <;> omega)
 dsimp only at *
 have hi1 := ind_rToken W.fForest.fTokens
 have hi2 := ind_rLease W.fBook.fLeases
 have hi3 := ind_rUser W.fFar.fUsers
 have hi4 := ind_rJob W.fQueue.fJobs
 have hi5 := ind_rOwned W.fOwned
 refine u_76 (Z4 c1 c2 c3 c4) ?_
 exact ⟨(W, u3), ⟨g3, d1⟩, by simp [Fin]⟩
theorem DrawGrantUser_w [MaxL GG] (code : List UInt8) (h : code.length ≤ 1048577) : ∃ a : GWorld × Int × GRole × Int × List UInt8, (DrOkW a.1 ∧ a.2.2.1.fName.length ≤ 10 ∧ a.2.2.1.fPrefix.length ≤ 10 ∧ a.2.2.2.2.length ≤ 200) ∧ Valid PP GG 11 [.d (.slc 1 (bytesD code))] (.tup [.agg a.1.o, .d (.int .i64 a.2.1), .agg a.2.2.1.o, .d (.int .i64 a.2.2.2.1), .d (.str a.2.2.2.2)]) [none] := by
 refine cvD Tryz.func11 (α := GWorld × Int × GRole × Int × List UInt8) 5 _ (fun a => [.agg a.1.o, .d (.int .i64 a.2.1), .agg a.2.2.1.o, .d (.int .i64 a.2.2.2.1), .d (.str a.2.2.2.2)]) _ (fun _ => rfl) ?_
 obtain ⟨⟨W, u⟩, ⟨g1, d1⟩, c1⟩ := l16DrawOne_w (GG := GG) code h
 dsimp only at g1 d1 c1
 obtain ⟨⟨id, u2⟩, g2, c2⟩ := l08DrawId_w (GG := GG) u W.fForest g1 (by have := d1.2.2.2.2; omega)
 dsimp only at g2 c2
 obtain ⟨⟨r, u3⟩, ⟨g3, r1, r2⟩, c3⟩ := l11DrawRole_w (GG := GG) u2 g2
 dsimp only at g3 r1 r2 c3
 obtain ⟨⟨key, u4⟩, g4, c4⟩ := l04DrawKey_w (GG := GG) u3 g3
 dsimp only at g4 c4
 have c5 := lPath_v (GG := GG) u4 g4
 have l5 := lPath_len u4
 generalize lPath u4 = p at *
 have hi1 := ind_rToken W.fForest.fTokens
 have hi2 := ind_rLease W.fBook.fLeases
 have hi3 := ind_rUser W.fFar.fUsers
 have hi4 := ind_rJob W.fQueue.fJobs
 have hi5 := ind_rOwned W.fOwned
 obtain ⟨q1, q2, q3, q4⟩ := r
 dsimp only at *
 refine u_76 (Z5 c1 c2 c3 c4 c5) ?_
 exact ⟨(W, id, ⟨q1, q2, q3, q4⟩, key, p.1), ⟨d1, r1, r2, l5⟩, by simp [Fin]⟩
theorem drop_ok {q : GQueue} {s : List UInt8} {now : Int} (hq : queueB q = true) (hl : q.fJobs.length < 120) (hs : nameOk s = true) (hn : 0 ≤ now ∧ now ≤ 1000000000) : qDropB q s now = true := by
 unfold qDropB
 cases hh : qHas q s with
 | true => rfl
 | false =>
  obtain ⟨h1, h2, h3⟩ := (queue_iff q).1 hq
  rw [Bool.false_or]
  unfold qHas at hh
  rw [List.any_eq_false] at hh
  refine (queue_iff _).2 ⟨by unfold dropOut; simp only [List.length_append, List.length_cons, List.length_nil]; omega, fun t ht => ?_, ?_⟩
  ·rcases List.mem_append.1 ht with ht | ht
   ·exact h2 t ht
   ·simp at ht; subst ht
    unfold jobB
    simp only [Bool.and_eq_true, inB_iff]
    exact ⟨⟨hs, by omega, by omega⟩, by omega, by omega⟩
  ·unfold dropOut
   dsimp only
   rw [List.pairwise_append]
   refine ⟨h3, List.pairwise_singleton _ _, fun a ha b hb => ?_⟩
   simp at hb; subst hb
   exact fun e => hh a ha (by dsimp only at e; rw [e]; simp)
theorem qDrop_more {q : GQueue} {s : List UInt8} {now : Int} : (qDropQ q s now).fJobs.length ≤ q.fJobs.length + 1 ∧ ∀ j, j ∈ (qDropQ q s now).fJobs → j ∈ q.fJobs ∨ j.fAt = now := by
 unfold qDropQ
 split
 ·exact ⟨by omega, fun j hj => .inl hj⟩
 ·split
  ·unfold dropOut
   refine ⟨by simp, fun j hj => ?_⟩
   rcases List.mem_append.1 hj with hj | hj
   ·exact .inl hj
   ·simp at hj; subst hj; exact .inr rfl
  ·exact ⟨by omega, fun j hj => .inl hj⟩
structure Due (w : GWorld) (os : List GOwned) (n : Nat) : Prop where
 qu : queueB w.fQueue = true
 at_ : ∀ j, j ∈ w.fQueue.fJobs → j.fAt = w.fNow
 room : w.fQueue.fJobs.length + n + os.length ≤ 120
 nm : ∀ o, o ∈ os → nameOk o.fName = true
 now : 0 ≤ w.fNow ∧ w.fNow ≤ 1000000000
theorem letFold_due (id : Int) : ∀ (os : List GOwned) (s : GWorld × List GOwned), Due s.1 os s.2.length → Due (os.foldl (letStep id) s).1 [] (os.foldl (letStep id) s).2.length ∧ (os.foldl (letStep id) s).1.fNow = s.1.fNow ∧
  (∀ j, j ∈ s.1.fQueue.fJobs → j ∈ (os.foldl (letStep id) s).1.fQueue.fJobs) ∧ ∀ o, o ∈ os → o.fLease = id → ∃ j, j ∈ (os.foldl (letStep id) s).1.fQueue.fJobs ∧ j.fName = o.fName := by
 intro os
 induction os with
 | nil => intro s h; exact ⟨h, rfl, fun j hj => hj, fun o ho => by cases ho⟩
 | cons o os ih =>
  intro s h
  rw [List.foldl_cons]
  obtain ⟨V, r⟩ := s
  obtain ⟨h1, h2, h3, h4, h5⟩ := h
  dsimp only at h1 h2 h3 h4 h5 ⊢
  simp only [List.length_cons] at h3
  by_cases hid : o.fLease = id
  ·have hst : letStep id (V, r) o = ({ V with fQueue := qDropQ V.fQueue o.fName V.fNow }, r) := by
    unfold letStep letHit
    rw [if_pos hid, if_pos (drop_ok h1 (by omega) (h4 o (List.mem_cons_self ..)) h5)]
   obtain ⟨k1, k2, k3⟩ := qDrop_jobs (q := V.fQueue) (s := o.fName) (now := V.fNow)
   obtain ⟨m1, m2⟩ := qDrop_more (q := V.fQueue) (s := o.fName) (now := V.fNow)
   rw [hst]
   have hdue : Due { V with fQueue := qDropQ V.fQueue o.fName V.fNow } os r.length := by
    refine ⟨?_, fun j hj => ?_, by dsimp only; omega, fun x hx => h4 x (List.mem_cons_of_mem _ hx), h5⟩
    ·have hb := drop_ok h1 (by omega) (h4 o (List.mem_cons_self ..)) h5
     unfold qDropB at hb
     unfold qDropQ
     dsimp only
     cases hh : qHas V.fQueue o.fName with
     | true => exact h1
     | false => rw [hh, Bool.false_or] at hb; simp only [Bool.false_eq_true, if_false]; rw [if_pos hb]; exact hb
    ·rcases m2 j hj with hj | hj
     ·exact h2 j hj
     ·exact hj
   obtain ⟨i1, i2, i3, i4⟩ := ih ({ V with fQueue := qDropQ V.fQueue o.fName V.fNow }, r) hdue
   refine ⟨i1, i2, fun j hj => i3 j (k2 j hj), fun x hx hxi => ?_⟩
   rcases List.mem_cons.1 hx with rfl | hx
   ·obtain ⟨j, hj, e⟩ := k1 (drop_ok h1 (by omega) (h4 x (List.mem_cons_self ..)) h5)
    exact ⟨j, i3 j hj, e⟩
   ·exact i4 x hx hxi
  ·have hst : letStep id (V, r) o = (V, r ++ [o]) := by unfold letStep; rw [if_neg hid]
   rw [hst]
   obtain ⟨i1, i2, i3, i4⟩ := ih (V, r ++ [o]) ⟨h1, h2, by simp only [List.length_append, List.length_cons, List.length_nil]; omega, fun x hx => h4 x (List.mem_cons_of_mem _ hx), h5⟩
   refine ⟨i1, i2, i3, fun x hx hxi => ?_⟩
   rcases List.mem_cons.1 hx with rfl | hx
   ·exact absurd hxi hid
   ·exact i4 x hx hxi
theorem letAll_due (ls : List GLease) : ∀ w : GWorld, Due w w.fOwned 0 → (∀ o, o ∈ w.fOwned → (ls.any fun l => decide (l.fId = o.fLease)) = true → ∃ j, j ∈ (letAll w ls).fQueue.fJobs ∧ j.fName = o.fName) ∧ (∀ j, j ∈ w.fQueue.fJobs → j ∈ (letAll w ls).fQueue.fJobs) ∧ ∀ j, j ∈ (letAll w ls).fQueue.fJobs → j.fAt = w.fNow := by
 induction ls with
 | nil => intro w h; exact ⟨fun o _ e => by simp at e, fun j hj => hj, h.at_⟩
 | cons l r ih =>
  intro w h
  obtain ⟨a1, a2, a3, a4⟩ := letFold_due l.fId w.fOwned (w, []) (by obtain ⟨h1, h2, h3, h4, h5⟩ := h; exact ⟨h1, h2, by simpa using h3, h4, h5⟩)
  have hf : w.fOwned.foldl (letStep l.fId) (w, []) = letFold w l.fId w.fOwned := rfl
  rw [hf] at a1 a2 a3 a4
  have h2 := (letFold_same w l.fId w.fOwned).2
  have hq : (letOne w l).fQueue = (letFold w l.fId w.fOwned).1.fQueue := rfl
  have ho : (letOne w l).fOwned = w.fOwned.filter fun o => !decide (o.fLease = l.fId) := by unfold letOne; rw [h2]
  have hn : (letOne w l).fNow = w.fNow := a2
  have hdue : Due (letOne w l) (letOne w l).fOwned 0 := by
   obtain ⟨b1, b2, b3, b4, b5⟩ := a1
   refine ⟨b1, b2, ?_, fun o hoo => ?_, b5⟩
   ·have : (letOne w l).fOwned.length = (letFold w l.fId w.fOwned).2.length := rfl
    rw [hq]; simp only [List.length_nil] at b3; omega
   ·rw [ho] at hoo; exact h.nm o (List.mem_filter.1 hoo).1
  obtain ⟨i1, i2, i3⟩ := ih (letOne w l) hdue
  show (∀ o, o ∈ w.fOwned → _ → ∃ j, j ∈ (letAll (letOne w l) r).fQueue.fJobs ∧ _) ∧ (∀ j, _ → j ∈ (letAll (letOne w l) r).fQueue.fJobs) ∧ ∀ j, j ∈ (letAll (letOne w l) r).fQueue.fJobs → _
  rw [hq] at i2
  rw [hn] at i3
  refine ⟨fun o hoo ha => ?_, fun j hj => i2 j (a3 j hj), i3⟩
  by_cases hl : o.fLease = l.fId
  ·obtain ⟨j, hj, e⟩ := a4 o hoo hl
   exact ⟨j, i2 j hj, e⟩
  ·refine i1 o (by rw [ho]; exact List.mem_filter.2 ⟨hoo, by simpa using hl⟩) ?_
   rw [List.any_cons] at ha
   rw [decide_eq_false (fun e => hl e.symm), Bool.false_or] at ha
   exact ha
theorem rq_del (now : Int) : ∀ (js : List GJob) (s : RQ), s.far.fFail ≤ 0 → (∀ j, j ∈ js → j.fAt ≤ now) → (∀ u, u ∈ (js.foldl (rqStep now) s).far.fUsers → u ∈ s.far.fUsers ∧ ∀ j, j ∈ js → u.fName ≠ j.fName) := by
 intro js
 induction js with
 | nil => intro s _ _ u hu; exact ⟨hu, fun j hj => by cases hj⟩
 | cons j js ih =>
  intro s hf ha u hu
  rw [List.foldl_cons] at hu
  have hst : rqStep now s j = { s with far := { s.far with fUsers := s.far.fUsers.filter fun u => !(u.fName == j.fName) }, done := s.done ++ [j.fName] } := by
   have := ha j (List.mem_cons_self ..)
   have hd : dropC s.far = 0 := by unfold dropC; rw [if_neg (by omega)]
   have hF : dropF s.far j.fName = { s.far with fUsers := s.far.fUsers.filter fun u => !(u.fName == j.fName) } := by unfold dropF; rw [if_neg (by omega)]
   unfold rqStep
   rw [if_neg (by omega), if_pos hd, hF]
  rw [hst] at hu
  obtain ⟨a, b⟩ := ih { s with far := { s.far with fUsers := s.far.fUsers.filter fun u => !(u.fName == j.fName) }, done := s.done ++ [j.fName] } hf (fun x hx => ha x (List.mem_cons_of_mem _ hx)) u hu
  obtain ⟨a1, a2⟩ := List.mem_filter.1 a
  refine ⟨a1, fun x hx => ?_⟩
  rcases List.mem_cons.1 hx with rfl | hx
  ·exact fun e => by rw [e] at a2; simp at a2
  ·exact b x hx
theorem lg_gone {w : GWorld} {ls : List GLease} (h : WOk w ls) (hj : w.fQueue.fJobs = []) (hf : w.fFar.fFail = 0) (ho : w.fOwned.length ≤ 120) {o : GOwned} (hm : o ∈ w.fOwned) (hl : (ls.any fun l => decide (l.fId = o.fLease)) = true) : ∀ u, u ∈ (letGo w ls).fFar.fUsers → u.fName ≠ o.fName := by
 obtain ⟨a1, a2, a3⟩ := letAll_due ls w ⟨h.qu, fun j hjj => (by rw [hj] at hjj; cases hjj), by rw [hj]; simp only [List.length_nil]; omega, h.on, h.now⟩
 obtain ⟨j, hjj, e⟩ := a1 o hm hl
 have hA : (letAll w ls).fFar = w.fFar := by rw [letAll_same w ls]
 have hN : (letAll w ls).fNow = w.fNow := by rw [letAll_same w ls]
 intro u hu
 have hu : u ∈ ((letAll w ls).fQueue.fJobs.foldl (rqStep (letAll w ls).fNow) ⟨[], (letAll w ls).fFar, [], []⟩).far.fUsers := hu
 have := (rq_del (letAll w ls).fNow (letAll w ls).fQueue.fJobs ⟨[], (letAll w ls).fFar, [], []⟩ (by dsimp only; rw [hA]; omega) (fun x hx => by rw [a3 x hx, hN]; exact Int.le_refl _) u hu).2 j hjj
 rw [e] at this
 exact this
structure Granted (w : GWorld) (tok : Int) (r : GRole) (key : Int) (path : List UInt8) : Prop where
 ok : worldB (guW w tok r key path) = true
 id : guI w tok r key path = w.fNext
 find : findL (guW w tok r key path).fBook w.fNext = newL w tok path r.fTtl r.fLimit
 lease : hasLease (guW w tok r key path).fBook w.fNext = true
 has : hasU (guW w tok r key path).fFar (guU w tok r key path).fName (guU w tok r key path).fPass = true
 live : (liveV (guW w tok r key path) tok).contains w.fNext = true
 own : ⟨w.fNext, (guU w tok r key path).fName⟩ ∈ (guW w tok r key path).fOwned
 ol : (guW w tok r key path).fOwned.length ≤ 62
 tok_ : hasTok (guW w tok r key path).fForest tok = true
 mem : newL w tok path r.fTtl r.fLimit ∈ (guW w tok r key path).fBook.fLeases
theorem goneT_mem {f : GForest} {id : Int} (hb : forestB f = true) (h : hasTok f id = true) : (goneT f id).contains id = true := by
 unfold goneT
 rw [if_pos hb]
 unfold hasTok at h
 obtain ⟨t, ht, e⟩ := List.any_eq_true.1 h
 have := (forest_wo hb (fun t => decide (t.fId = id))).rec_ t ht
 rw [e, Bool.true_or, of_decide_eq_true e] at this
 exact this
theorem granted {w : GWorld} {tok : Int} {r : GRole} {key : Int} {path : List UInt8} (hd : DrOkW w) (h : guC w tok r key path = 0) : Granted w tok r key path := by
 obtain ⟨hro, hg, g2, e⟩ := gu_parts h
 have hwb : worldB w = true := by unfold grantB at hg; simp only [Bool.and_eq_true] at hg; exact hg.1.1
 have hw := (world_iff w).1 hwb
 have hfm : 0 ≤ w.fFar.fMade := (inB_true ((far_iff _).1 hw.fa).2.2.1).1
 obtain ⟨f1, -, -, -, f5⟩ := muF_ok (r := r) (key := key) hw.fa
 obtain ⟨u1, u2, u3, u4⟩ := f5 g2
 obtain ⟨d1, d2, d3, d4, d5⟩ := hd
 have hnn : (muN w.fFar r key).fName = r.fPrefix ++ six (w.fFar.fMade + 1).toNat := rfl
 have hW := gu_world hw h fun o ho eo => by
  rw [hnn] at eo
  rcases d2 o ho with hl | ⟨p, k, a, b, c⟩
  ·rw [eo] at hl; simp only [List.length_append, six, List.length_cons, List.length_nil] at hl; omega
  ·rw [a] at eo
   have := six_tail (by omega) (by omega) eo
   omega
 have hU : guU w tok r key path = muN w.fFar r key := by unfold guU; rw [if_pos h, u4]
 have hI : guI w tok r key path = w.fNext := by unfold guI; rw [if_pos h]
 have hwb2 := (world_iff _).2 hW
 have ebk : (guW w tok r key path).fBook = ⟨w.fBook.fLeases ++ [newL w tok path r.fTtl r.fLimit]⟩ := by rw [e]
 have efo : (guW w tok r key path).fForest = w.fForest := by rw [e]
 have efa : (guW w tok r key path).fFar = muF w.fFar r key := by rw [e]
 have eow : (guW w tok r key path).fOwned = w.fOwned ++ [⟨w.fNext, (muN w.fFar r key).fName⟩] := by rw [e, u4]
 have hid : (newL w tok path r.fTtl r.fLimit).fId = w.fNext := rfl
 have hmem : newL w tok path r.fTtl r.fLimit ∈ (guW w tok r key path).fBook.fLeases := by rw [ebk]; simp
 have hls : hasLease (guW w tok r key path).fBook w.fNext = true := List.any_eq_true.2 ⟨_, hmem, decide_eq_true hid⟩
 have htk := grant_tok hg
 refine ⟨hwb2, hI, ?_, hls, ?_, ?_, ?_, ?_, by rw [efo]; exact htk, hmem⟩
 ·have hb := hW.bo
  unfold findL
  rw [if_pos hb]
  cases hf : (guW w tok r key path).fBook.fLeases.find? (fun l => decide (l.fId = w.fNext)) with
  | none =>
   rw [List.find?_eq_none] at hf
   exact absurd (decide_eq_true hid) (hf _ hmem)
  | some x =>
   have h1 := of_decide_eq_true (List.find?_some (p := fun l : GLease => decide (l.fId = w.fNext)) hf)
   exact book_uniq hb (List.mem_of_find?_eq_some hf) hmem h1
 ·unfold hasU
  rw [efa, u1, hU]
  exact List.any_eq_true.2 ⟨muN w.fFar r key, put_mem.2 (.inr rfl), by simp⟩
 ·unfold liveV liveOf
  rw [if_pos hwb2, List.contains_iff_mem, List.mem_map]
  refine ⟨newL w tok path r.fTtl r.fLimit, List.mem_filter.2 ⟨hmem, ?_⟩, hid⟩
  rw [efo]
  exact goneT_mem hw.fo htk
 ·rw [eow, hU]; simp
 ·rw [eow]; simp only [List.length_append, List.length_cons, List.length_nil]; omega
theorem granted_cut {w : GWorld} {tok : Int} {r : GRole} {key : Int} {path : List UInt8} (hg : Granted w tok r key path) {W : GWorld} (hW : W = { guW w tok r key path with fFar := { (guW w tok r key path).fFar with fFail := 0 } }) (hj : W.fQueue.fJobs = []) :
  worldB W = true ∧ cutB W w.fNext = true ∧ hasU (cutW W w.fNext).fFar (guU w tok r key path).fName (guU w tok r key path).fPass = false ∧ (ctG W tok).contains tok = true ∧
  hasU (ctW W tok).fFar (guU w tok r key path).fName (guU w tok r key path).fPass = false ∧ liveV (ctW W tok) tok = [] ∧ worldB (cutW W w.fNext) = true ∧ worldB (ctW W tok) = true := by
 obtain ⟨g1, g2, g3, g4, g5, g6, g7, g8, g9, g10⟩ := hg
 generalize guW w tok r key path = N at *
 have hN := (world_iff N).1 g1
 have hw : WOk W [] := by
  rw [hW]
  obtain ⟨b1, b2, b3, b4, b5, b6, b7, b8, b9, b10, b11, b12, b13, b14⟩ := hN
  obtain ⟨f1, f2, f3, f4, f5⟩ := (far_iff _).1 b6
  exact ⟨b1, b2, b3, b4, b5, (far_iff _).2 ⟨f1, inB_mk (by dsimp only; omega) (by dsimp only; omega), f3, f4, f5⟩, b7, b8, b9, b10, b11, b12, b13, b14⟩
 have hwb := (world_iff W).2 hw
 have e1 : W.fBook = N.fBook := by rw [hW]
 have e2 : W.fOwned = N.fOwned := by rw [hW]
 have e3 : W.fForest = N.fForest := by rw [hW]
 have e4 : W.fFar.fFail = 0 := by rw [hW]
 have hcb : cutB W w.fNext = true := by unfold cutB; rw [hwb, e1, g4]; rfl
 have hno : ∀ Z : GWorld, (∀ u, u ∈ Z.fFar.fUsers → u.fName ≠ (guU w tok r key path).fName) → hasU Z.fFar (guU w tok r key path).fName (guU w tok r key path).fPass = false := by
  intro Z hz
  unfold hasU
  rw [List.any_eq_false]
  intro u hu he
  rw [Bool.and_eq_true, beq_iff_eq] at he
  exact hz u hu he.1
 have hct : ctB W tok = true := by unfold ctB; rw [hwb, e3, g9]; rfl
 have hgm : (goneT W.fForest tok).contains tok = true := by rw [e3]; exact goneT_mem (by rw [← e3]; exact hw.fo) g9
 have hG : goneT W.fForest tok = (wo (fun t => decide (t.fId = tok)) W.fForest.fTokens).2 := by unfold goneT; rw [if_pos hw.fo]
 have hl : hasLease W.fBook w.fNext = true := by rw [e1]; exact g4
 have hp1 := less_ok (now := W.fNow) (f := W.fForest) (ls := [cutL W w.fNext]) (fun l => !(decide (l.fId = w.fNext))) hw hw.now hw.fo (fun _ ht => ht) fun l hl2 hp => by
  have e : l.fId = w.fNext := by simpa using hp
  have := book_uniq hw.bo (cutL_mem hl) hl2 ((cutL_id hl).trans e.symm)
  rw [this]; simp
 have x1 : cutW W w.fNext = letGo { W with fNow := W.fNow, fForest := W.fForest, fBook := ⟨W.fBook.fLeases.filter fun l => !(decide (l.fId = w.fNext))⟩ } [cutL W w.fNext] := by unfold cutW; rw [if_pos hcb]; rfl
 have hfo := lessF_ok hw.fo (fun t => decide (t.fId = tok))
 rw [← hG] at hfo
 have hp2 := less_ok (now := W.fNow) (f := lessF W.fForest (goneT W.fForest tok)) (ls := goneL W.fBook (goneT W.fForest tok)) (fun l => !(goneT W.fForest tok).contains l.fToken) hw hw.now hfo (fun t ht => (List.mem_filter.1 ht).1) fun l hl hp => List.mem_filter.2 ⟨hl, by simpa using hp⟩
 have x2 : ctW W tok = letGo { W with fNow := W.fNow, fForest := lessF W.fForest (goneT W.fForest tok), fBook := ⟨W.fBook.fLeases.filter fun l => !(goneT W.fForest tok).contains l.fToken⟩ } (goneL W.fBook (goneT W.fForest tok)) := by unfold ctW; rw [if_pos hct]; rfl
 refine ⟨hwb, hcb, hno _ ?_, ?_, hno _ ?_, ?_, by rw [x1]; exact (world_iff _).2 (letGo_ok hp1), by rw [x2]; exact (world_iff _).2 (letGo_ok hp2)⟩
 ·rw [x1]
  exact lg_gone hp1 hj e4 (by show W.fOwned.length ≤ 120; rw [e2]; omega) (o := ⟨w.fNext, (guU w tok r key path).fName⟩) (by show _ ∈ W.fOwned; rw [e2]; exact g7) (by simp [cutL_id hl])
 ·unfold ctG; rw [if_pos hwb]; exact hgm
 ·rw [x2]
  refine lg_gone hp2 hj e4 (by show W.fOwned.length ≤ 120; rw [e2]; omega) (o := ⟨w.fNext, (guU w tok r key path).fName⟩) (by show _ ∈ W.fOwned; rw [e2]; exact g7) ?_
  refine List.any_eq_true.2 ⟨newL w tok path r.fTtl r.fLimit, List.mem_filter.2 ⟨by rw [e1]; exact g10, hgm⟩, decide_eq_true rfl⟩
 ·have hfo2 : (ctW W tok).fForest = lessF W.fForest (goneT W.fForest tok) := by rw [x2]; exact (letGo_flds _ _).2.2.1
  have hnt : hasTok (ctW W tok).fForest tok = false := by
   rw [hfo2]
   unfold hasTok lessF
   rw [List.any_eq_false]
   intro t ht he
   have := (List.mem_filter.1 ht).2
   rw [of_decide_eq_true he, hgm] at this
   cases this
  unfold liveV
  split
  ·rw [goneT_none hnt]
   unfold liveOf
   rw [List.map_eq_nil_iff, List.filter_eq_nil_iff]
   intro l _; simp
  ·rfl
theorem law_GrantedFn [P10 GG] [MaxL GG] (code : List UInt8) (hl : code.length ≤ maxLen) : Valid PP GG 4 [.d (.slc 1 (bytesD code))] (.d (.bool true)) [none] := by
 refine cv Tryz.func4 [.d (.bool true)] ?_
 have cb := big_ok (GG := GG) code hl
 by_cases hbig : 1048576 < code.length
 ·rw [decide_eq_true hbig] at cb
  exact u_31 (Z1 cb)
 rw [decide_eq_false hbig] at cb
 obtain ⟨⟨w, tok, r, key, path⟩, ⟨hd, r1, r2, r3⟩, cd⟩ := DrawGrantUser_w (GG := GG) code (by omega)
 dsimp only at hd r1 r2 r3 cd
 have hfit := hd.1
 have cs := s_GrantUser_ok (GG := GG) w tok r key path hfit (by omega) (by omega) (by omega)
 have ci := i_GrantUser_ok (GG := GG) w tok r key path hfit (by omega) (by omega) (by omega)
 have hg := fun h => granted (tok := tok) (r := r) (key := key) (path := path) hd h
 have hi1 := ind_rToken w.fForest.fTokens
 have hi2 := ind_rLease w.fBook.fLeases
 have hi3 := ind_rUser w.fFar.fUsers
 have hi4 := ind_rJob w.fQueue.fJobs
 have hi5 := ind_rOwned w.fOwned
 have hj1 := ind_rToken (guW w tok r key path).fForest.fTokens
 have hj2 := ind_rLease (guW w tok r key path).fBook.fLeases
 have hj3 := ind_rUser (guW w tok r key path).fFar.fUsers
 have hj4 := ind_rJob (guW w tok r key path).fQueue.fJobs
 have hj5 := ind_rOwned (guW w tok r key path).fOwned
 have hne : (guC w tok r key path != guC w tok r key path) = false := by simp
 by_cases hc : guC w tok r key path = 0
 rotate_left
 ·have hc0 : (guC w tok r key path != 0) = true := by simpa using hc
  clear hg
  generalize guW w tok r key path = Z at *
  generalize guU w tok r key path = U at *
  generalize guI w tok r key path = I at *
  generalize guC w tok r key path = CC at *
  obtain ⟨q1, q2, q3, q4⟩ := r
  obtain ⟨v1, v2⟩ := U
  dsimp only at *
  exact u_29 (Y2 hne hc0) (Z4 cb cd cs ci)
 have hG := hg hc
 have hcut := fun (W : GWorld) hW hj => granted_cut hG (W := W) hW hj
 obtain ⟨g1, g2, g3, g4, g5, g6, -, -, -, -⟩ := hG
 have hfz := fitW_of_ok g1
 have hw := (world_iff _).1 g1
 rw [hc] at cs ci hne
 rw [g2] at cs ci
 have cf := i_FindLease_ok (GG := GG) (guW w tok r key path).fBook w.fNext hfz.2.1
 rw [g3, g4, hw.bo] at cf
 have ch := i_HasUser_ok (GG := GG) (guW w tok r key path).fFar (guU w tok r key path).fName (guU w tok r key path).fPass hfz.2.2.1
 rw [g5, hw.fa] at ch
 have cv := i_LiveLeases_ok (GG := GG) (guW w tok r key path) tok hfz
 have hlv : (liveV (guW w tok r key path) tok).length ≤ 1000 := by
  unfold liveV liveOf
  rw [if_pos g1, List.length_map]
  exact Nat.le_trans (List.length_filter_le _ _) (by have := ((book_iff _).1 hw.bo).1; omega)
 have cn := L_within_ok (GG := GG) (liveV (guW w tok r key path) tok) w.fNext (by omega)
 rw [g6] at cn
 have ck := s_WorldOk_ok (GG := GG) (guW w tok r key path) hfz
 rw [g1] at ck
 have hjl : (guW w tok r key path).fQueue.fJobs.length ≤ 120 := ((queue_iff _).1 hw.qu).1
 have ht5 := ind_ints (liveV (guW w tok r key path) tok)
 clear hg hd g3 g4 g5 g6 g1 hw
 by_cases hj : (guW w tok r key path).fQueue.fJobs = []
 rotate_left
 ·have hjp : ((0 : Int) < (((guW w tok r key path).fQueue.fJobs.length : Nat) : Int)) = True := by
   have := List.length_pos_iff.2 hj
   simp; omega
  clear hcut hj
  generalize liveV (guW w tok r key path) tok = LV at *
  generalize guW w tok r key path = Z at *
  generalize guU w tok r key path = U at *
  obtain ⟨q1, q2, q3, q4⟩ := r
  obtain ⟨v1, v2⟩ := U
  dsimp only at *
  repeat' (first | refine W_seq ?_ | refine W_skip ?_ | refine W_block ?_ | (refine W_exit ?_; first | refine pick_pos rfl ?_ | (refine pick_neg rfl ?_; first | refine pick_pos rfl ?_ | (refine pick_neg rfl ?_; refine pick_pos rfl ?_))) | (refine W_regP fun K hK => ?_; simp [newL, hjp]) | (refine W_regPD fun K hK => ?_; simp [newL, hjp]) | (with_reducible refine hK _ ?_; clear hK K) | (with_reducible refine callQ (cb) ?_; simp [newL, hjp]) | (with_reducible refine callQ (cd) ?_; simp [newL, hjp]) | (with_reducible refine callQ (cs) ?_; simp [newL, hjp]) | (with_reducible refine callQ (ci) ?_; simp [newL, hjp]) | (with_reducible refine callQ (cf) ?_; simp [newL, hjp]) | (with_reducible refine callQ (ch) ?_; simp [newL, hjp]) | (with_reducible refine callQ (cv) ?_; simp [newL, hjp]) | (with_reducible refine callQ (cn) ?_; simp [newL, hjp]) | (with_reducible refine goL_split (fun h => ?_) (fun h => ?_) <;> first | (exfalso; simp at h; done) | (exfalso; simp at h; omega) | (exfalso; simp at h; contradiction) | ((try simp at h); simp [newL, hjp])) | with_reducible refine And.intro ?_ ?_ | with_reducible exact okay_rfl rfl | with_reducible assumption | (refine W_cond rfl (fun h => ?_) (fun h => ?_) <;> first | (exfalso; simp at h; done) | (exfalso; simp at h; omega) | (exfalso; simp at h; contradiction) | (exfalso; simp_all; done) | (try simp at h)) | (refine W_ret ?_; simp [Fin, newL, hjp]) | omega)
  repeat' (first | refine W_seq ?_ | refine W_skip ?_ | refine W_block ?_ | (refine W_exit ?_; first | refine pick_pos rfl ?_ | (refine pick_neg rfl ?_; first | refine pick_pos rfl ?_ | (refine pick_neg rfl ?_; refine pick_pos rfl ?_))) | (refine W_regP fun K hK => ?_; simp [newL, hjp]) | (refine W_regPD fun K hK => ?_; simp [newL, hjp]) | (with_reducible refine hK _ ?_; clear hK K) | (with_reducible refine callQ (ck) ?_; simp [newL, hjp]) | (with_reducible refine goL_split (fun h => ?_) (fun h => ?_) <;> first | (exfalso; simp at h; done) | (exfalso; simp at h; omega) | (exfalso; simp at h; contradiction) | ((try simp at h); simp [newL, hjp])) | with_reducible refine And.intro ?_ ?_ | with_reducible exact okay_rfl rfl | with_reducible assumption | (refine W_cond rfl (fun h => ?_) (fun h => ?_) <;> first | (exfalso; simp at h; done) | (exfalso; simp at h; omega) | (exfalso; simp at h; contradiction) | (exfalso; simp_all; done) | (try simp at h)) | (refine W_ret ?_; simp [Fin, newL, hjp]) | omega)
 obtain ⟨W2, hW2⟩ : ∃ W2 : GWorld, W2 = { guW w tok r key path with fFar := { (guW w tok r key path).fFar with fFail := 0 } } := ⟨_, rfl⟩
 obtain ⟨k1, k2, k3, k4, k5, k6, k7, k8⟩ := hcut W2 hW2 (by rw [hW2]; exact hj)
 clear hcut
 have hjn : ((0 : Int) < (((guW w tok r key path).fQueue.fJobs.length : Nat) : Int)) = False := by rw [hj]; simp
 clear hj hjl
 have hf2 := fitW_of_ok k1
 have hf7 := fitW_of_ok k7
 have hf8 := fitW_of_ok k8
 have c1 := i_CutLease_ok (GG := GG) W2 w.fNext hf2
 rw [k2] at c1
 have c2 := i_CutToken_ok (GG := GG) W2 tok hf2
 have hgl := ctG_len W2 tok hf2
 have c3 := i_HasUser_ok (GG := GG) (cutW W2 w.fNext).fFar (guU w tok r key path).fName (guU w tok r key path).fPass hf7.2.2.1
 rw [k3, Bool.and_false] at c3
 have c4 := L_within_ok (GG := GG) (ctG W2 tok) tok (by omega)
 rw [k4] at c4
 have c5 := i_HasUser_ok (GG := GG) (ctW W2 tok).fFar (guU w tok r key path).fName (guU w tok r key path).fPass hf8.2.2.1
 rw [k5, Bool.and_false] at c5
 have c6 := i_LiveLeases_ok (GG := GG) (ctW W2 tok) tok hf8
 rw [k6, show intsD [] = [] from rfl] at c6
 have x1 := ind_rToken (cutW W2 w.fNext).fForest.fTokens
 have x2 := ind_rLease (cutW W2 w.fNext).fBook.fLeases
 have x3 := ind_rUser (cutW W2 w.fNext).fFar.fUsers
 have x4 := ind_rJob (cutW W2 w.fNext).fQueue.fJobs
 have x5 := ind_rOwned (cutW W2 w.fNext).fOwned
 have y1 := ind_rToken (ctW W2 tok).fForest.fTokens
 have y2 := ind_rLease (ctW W2 tok).fBook.fLeases
 have y3 := ind_rUser (ctW W2 tok).fFar.fUsers
 have y4 := ind_rJob (ctW W2 tok).fQueue.fJobs
 have y5 := ind_rOwned (ctW W2 tok).fOwned
 have y6 := ind_ints (ctG W2 tok)
 clear k1 k2 k3 k4 k5 k6 k7 k8 hf2 hf7 hf8
 generalize cutW W2 w.fNext = X at *
 generalize ctW W2 tok = Y at *
 generalize ctG W2 tok = TG at *
 subst hW2
 generalize liveV (guW w tok r key path) tok = LV at *
 generalize guW w tok r key path = Z at *
 generalize guU w tok r key path = U at *
 obtain ⟨q1, q2, q3, q4⟩ := r
 obtain ⟨v1, v2⟩ := U
 dsimp only at *
 repeat' (first | refine W_seq ?_ | refine W_skip ?_ | refine W_block ?_ | (refine W_exit ?_; first | refine pick_pos rfl ?_ | (refine pick_neg rfl ?_; first | refine pick_pos rfl ?_ | (refine pick_neg rfl ?_; refine pick_pos rfl ?_))) | (refine W_regP fun K hK => ?_; simp [newL, hjn]) | (refine W_regPD fun K hK => ?_; simp [newL, hjn]) | (with_reducible refine hK _ ?_; clear hK K) | (with_reducible refine callQ (cb) ?_; simp [newL, hjn]) | (with_reducible refine callQ (cd) ?_; simp [newL, hjn]) | (with_reducible refine callQ (cs) ?_; simp [newL, hjn]) | (with_reducible refine callQ (ci) ?_; simp [newL, hjn]) | (with_reducible refine callQ (cf) ?_; simp [newL, hjn]) | (with_reducible refine callQ (ch) ?_; simp [newL, hjn]) | (with_reducible refine callQ (cv) ?_; simp [newL, hjn]) | (with_reducible refine callQ (cn) ?_; simp [newL, hjn]) | (with_reducible refine goL_split (fun h => ?_) (fun h => ?_) <;> first | (exfalso; simp at h; done) | (exfalso; simp at h; omega) | (exfalso; simp at h; contradiction) | ((try simp at h); simp [newL, hjn])) | with_reducible refine And.intro ?_ ?_ | with_reducible exact okay_rfl rfl | with_reducible assumption | (refine W_cond rfl (fun h => ?_) (fun h => ?_) <;> first | (exfalso; simp at h; done) | (exfalso; simp at h; omega) | (exfalso; simp at h; contradiction) | (exfalso; simp_all; done) | (try simp at h)) | (refine W_ret ?_; simp [Fin, newL, hjn]) | omega)
 clear cb cd cs ci cf ch cv cn
 repeat' (first | refine W_seq ?_ | refine W_skip ?_ | refine W_block ?_ | (refine W_exit ?_; first | refine pick_pos rfl ?_ | (refine pick_neg rfl ?_; first | refine pick_pos rfl ?_ | (refine pick_neg rfl ?_; refine pick_pos rfl ?_))) | (refine W_regP fun K hK => ?_; simp [hjn]) | (refine W_regPD fun K hK => ?_; simp [hjn]) | (with_reducible refine hK _ ?_; clear hK K) | (with_reducible refine callQ (ck) ?_; simp [hjn]) | (with_reducible refine callQ (c1) ?_; simp [hjn]) | (with_reducible refine callQ (c2) ?_; simp [hjn]) | (with_reducible refine callQ (c3) ?_; simp [hjn]) | (with_reducible refine callQ (c4) ?_; simp [hjn]) | (with_reducible refine callQ (c5) ?_; simp [hjn]) | (with_reducible refine callQ (c6) ?_; simp [hjn]) | (with_reducible refine goL_split (fun h => ?_) (fun h => ?_) <;> first | (exfalso; simp at h; done) | (exfalso; simp at h; omega) | (exfalso; simp at h; contradiction) | ((try simp at h); simp [hjn])) | with_reducible refine And.intro ?_ ?_ | with_reducible exact okay_rfl rfl | with_reducible assumption | (refine W_cond rfl (fun h => ?_) (fun h => ?_) <;> first | (exfalso; simp at h; done) | (exfalso; simp at h; omega) | (exfalso; simp at h; contradiction) | (exfalso; simp_all; done) | (try simp at h)) | (refine W_ret ?_; simp [Fin, hjn]) | omega)
end Go.Proofs.YtoomonfpedjgoaaGreatDoor.Ab
