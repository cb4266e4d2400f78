/-
  A part of a proof about the given program; what is proved is said where each theorem stands.
-/
import Derived.Test.YtoomonfpedjgoaaGreatDoorFrameA
import Derived.Test.YtoomonfpedjgoaaGreatDoorFrameB
import Derived.Test.YtoomonfpedjgoaaGreatDoorFrameC
import Derived.Test.YtoomonfpedjgoaaGreatDoorFrameD
import Derived.Test.YtoomonfpedjgoaaGreatDoorFrameE
import Derived.Test.YtoomonfpedjgoaaGreatDoorHead
import Derived.Test.YtoomonfpedjgoaaGreatDoorShelf
import Derived.Test.YtoomonfpedjgoaaGreatDoorPartA
import Derived.Test.YtoomonfpedjgoaaGreatDoorPartB
import Derived.Test.YtoomonfpedjgoaaGreatDoorPartC
import Derived.Test.YtoomonfpedjgoaaGreatDoorPartD
namespace Go.Proofs
end Go.Proofs
set_option linter.unusedSimpArgs false
set_option linter.unusedVariables false
set_option maxRecDepth 100000
set_option maxHeartbeats 2000000
namespace Go.Proofs.YtoomonfpedjgoaaGreatDoor.Ab
open Go.Proofs
variable {GG : GV}
theorem live_ok [MaxL GG] [P10 GG] (code : List UInt8) (h : code.length ≤ 1048577) : Valid PP GG 6 [.d (.slc 1 (bytesD code)), .d (.int .i64 60)] (.agg (lvW code (min code.length 60)).o) [none, none] := by
  refine cv Tryz.func6 [.agg (lvW code (min code.length 60)).o] ?_
  have hbl := bytesD_len code
  obtain ⟨n, hn⟩ : ∃ n, n = min code.length 60 := ⟨_, rfl⟩
  rw [← hn]
  have hn60 : n ≤ 60 := by omega
  refine u_1 ?_
  refine u_1 ?_
  refine u_22 hbl ?_
  refine W_cut [0, 4, 5, 6] (fun st' => st' = ⟨[], [(0, .d (.slc 1 (bytesD code))), (4, .ptr 0 0), (5, .ptr 1 0), (6, .d (.int .i64 n))], [(0, lvZ), (1, .box [.d (.int .i64 0), .d (.int .i64 1), .d (.int .i64 0), .nil 1 7, .nil 0 6, .nil 0 2, .d (.int .i64 0), .d (.int .i64 0), .nil 0 3, .nil 0 2])], 2⟩) ?_ ?_
  · by_cases hc : 60 < code.length
    · have hn' : n = 60 := by omega
      subst hn'
      have hc' : ((60 : Int) < ((code.length : Nat) : Int)) = True := by simp; omega
      clear hn hn60 hc
      refine u_15 hc' ?_
      exact u_16
    · have hn' : n = code.length := by omega
      subst hn'
      have hc' : ((60 : Int) < ((code.length : Nat) : Int)) = False := by simp; omega
      clear hn hn60 hc
      refine u_15 hc' ?_
      exact u_16
  rintro st rfl
  refine W_nilP 5 3 rfl rfl rfl ?_
  refine W_nilP 5 4 rfl rfl rfl ?_
  refine W_nilP 5 5 rfl rfl rfl ?_
  refine W_nilP 5 8 rfl rfl rfl ?_
  refine W_nilP 5 9 rfl rfl rfl ?_
  refine u_23 ?_
  refine W_loop (fun m st => ∃ i : Nat, m = n - i ∧ i ≤ n ∧ st = ⟨[], [(0, .d (.slc 1 (bytesD code))), (4, .ptr 0 0), (5, .ptr 1 0), (6, .d (.int .i64 n)), (7, .d (.int .i64 i))], lvOs (lvW code i), 7⟩) _ ⟨0, rfl, by omega, ?_⟩ ?_
  · simp [gc, closeN, liveA, gcV, gcO, renA, renAs, renO, namesAs, namesA, namesO, posn, lvW, world0, rToken, rLease, rUser, rJob, rOwned]
  rintro m st ⟨i, rfl, hi, rfl⟩
  by_cases hlt : i < n
  rotate_left
  · have hie : i = n := by omega
    subst hie
    have hi1 := ind_rToken (lvW code i).fForest.fTokens
    have hi2 := ind_rLease (lvW code i).fBook.fLeases
    have hi3 := ind_rUser (lvW code i).fFar.fUsers
    have hi4 := ind_rJob (lvW code i).fQueue.fJobs
    have hi5 := ind_rOwned (lvW code i).fOwned
    generalize lvW code i = W at *
    exact u_21
  have hL := lv_ok code i (by omega)
  have hs : lvW code (i + 1) = lvStep (lvW code i) (atV code i).toNat := rfl
  have ca := at_ok (GG := GG) code i h (by omega)
  have hr := atV_rng code i
  obtain ⟨x, hx⟩ : ∃ x : Nat, atV code i = (x : Int) := Int.eq_ofNat_of_zero_le hr.1
  rw [hx] at ca hs hr
  simp only [Int.toNat_natCast] at hs
  clear hx
  generalize lvW code i = W at *
  have hfin : ∀ (W' : GWorld), W' = lvStep W x → lvW code (i + 1) = W' := fun W' e => by rw [hs, e]
  clear hs
  have hwb := hL.lived.ok
  have hfit := fitW_of_ok hwb
  have hnow := ((world_iff W).1 hwb).now
  have hnx := ((world_iff W).1 hwb).next
  have hnx2 := hL.next
  have hfo := ((world_iff W).1 hwb).fo
  have hft : W.fForest.fTokens.length ≤ 1048576 := hfit.1.1
  have hfl : W.fBook.fLeases.length ≤ 1048576 := hfit.2.1.1
  have hi1 := ind_rToken W.fForest.fTokens
  have hi2 := ind_rLease W.fBook.fLeases
  have hi3 := ind_rUser W.fFar.fUsers
  have hi4 := ind_rJob W.fQueue.fJobs
  have hi5 := ind_rOwned W.fOwned
  clear hL
  refine W_seq (W_seq (?_))
  refine u_5 hlt ?_
  refine W_cond rfl (fun _ => W_skip ?_) (fun h => by simp at h)
  refine W_seq (W_block (W_seq ?_))
  refine u_31 (Z1 ca) ?_
  clear ca
  refine u_1 ?_
  refine u_1 ?_
  refine W_cut [0, 4, 5, 6, 7, 8, 10] (fun st' => st' = ⟨[], [(0, .d (.slc 1 (bytesD code))), (4, .ptr 0 0), (5, .ptr 1 0), (6, .d (.int .i64 n)), (7, .d (.int .i64 i)), (8, .d (.int .i64 x)), (10, .d (.int .i64 (pickV W x)))], lvOs W, 7⟩) ?_ ?_
  · clear hi1 hi2 hi3 hi4 hi5 hfin
    by_cases h0 : W.fForest.fTokens.length = 0
    · have hp : pickV W x = 0 := by unfold pickV; rw [List.length_eq_zero_iff.1 h0]; rfl
      rw [hp]
      refine u_15 h0 ?_
      exact u_16
    · have hlx : x % W.fForest.fTokens.length < W.fForest.fTokens.length := Nat.mod_lt _ (by omega)
      have hg := List.getElem?_eq_getElem hlx
      have hp : pickV W x = (W.fForest.fTokens[x % W.fForest.fTokens.length]).fId := by unfold pickV; rw [hg]
      rw [hp]
      have hrem := rem_nat x W.fForest.fTokens.length (by omega)
      have h0' : (0 : Int) < ((W.fForest.fTokens.length : Nat) : Int) := by omega
      generalize W.fForest.fTokens[x % W.fForest.fTokens.length] = t at *
      generalize x % W.fForest.fTokens.length = k at *
      obtain ⟨t1, t2, t3, t4, t5, t6, t7⟩ := t
      refine u_15 (Y3 h0' hrem hg) ?_
      exact u_16
  rintro st rfl
  unfold lvStep lvTok lvRole at hfin
  have hx8 : x % 8 < 8 := Nat.mod_lt _ (by omega)
  have hx40 : x % 40 < 40 := Nat.mod_lt _ (by omega)
  have hx20 : x % 20 < 20 := Nat.mod_lt _ (by omega)
  have hx7 : x % 7 < 7 := Nat.mod_lt _ (by omega)
  have hx2 : x % 8 = 7 → x % 2 = 1 := by omega
  have m8 : Int.tmod (x : Int) 8 = ((x % 8 : Nat) : Int) := rfl
  have m3 : Int.tmod (x : Int) 3 = ((x % 3 : Nat) : Int) := rfl
  have m5 : Int.tmod (x : Int) 5 = ((x % 5 : Nat) : Int) := rfl
  have m40 : Int.tmod (x : Int) 40 = ((x % 40 : Nat) : Int) := rfl
  have m20 : Int.tmod (x : Int) 20 = ((x % 20 : Nat) : Int) := rfl
  have m7 : Int.tmod (x : Int) 7 = ((x % 7 : Nat) : Int) := rfl
  have m2 : Int.tmod (x : Int) 2 = ((x % 2 : Nat) : Int) := rfl
  generalize x % 8 = k8 at *
  generalize x % 3 = k3 at *
  generalize x % 5 = k5 at *
  generalize x % 40 = k40 at *
  generalize x % 20 = k20 at *
  generalize x % 7 = k7 at *
  generalize x % 2 = k2 at *
  have hwi : IntKind.i64.wrap ((i : Int) + 1) = (i : Int) + 1 := wrap_id (by omega) (by omega)
  refine W_seq (?_)
  apply W_regS
  · intro K hK
    simp [m8]
    repeat' (first | with_reducible exact hK | (with_reducible refine goL_split (fun _ => ?_) (fun _ => ?_) <;> simp [m8]) | with_reducible refine And.intro ?_ ?_ | with_reducible exact okay_rfl rfl | with_reducible assumption | omega)
  clear m8
  by_cases c5 : k8 = 5
  · subst c5
    clear m3 m5 m40 m20 m7 m2 hx2
    by_cases h0 : W.fBook.fLeases.length = 0
    · have hW := hfin W (by rw [List.length_eq_zero_iff.1 h0]; rfl)
      clear hfin
      have h0' : ((0 : Int) < ((W.fBook.fLeases.length : Nat) : Int)) = False := by rw [h0]; simp
      refine u_15 h0' ?_
      refine ⟨n - (i + 1), by omega, i + 1, rfl, hlt, ?_⟩
      rw [hW]
      exact u_27 hwi
    · have hlx : x % W.fBook.fLeases.length < W.fBook.fLeases.length := Nat.mod_lt _ (by omega)
      have hg := List.getElem?_eq_getElem hlx
      have hW := hfin (cutW W (W.fBook.fLeases[x % W.fBook.fLeases.length]).fId) (by simp only [Nat.reduceEqDiff, if_false, Nat.reduceLeDiff, if_true]; rw [hg])
      clear hfin
      have hrem := rem_nat x W.fBook.fLeases.length (by omega)
      have h0' : ((0 : Int) < ((W.fBook.fLeases.length : Nat) : Int)) = True := by simp; omega
      generalize W.fBook.fLeases[x % W.fBook.fLeases.length] = l at *
      generalize x % W.fBook.fLeases.length = k at *
      have c := i_CutLease_ok (GG := GG) W l.fId hfit
      generalize cutW W l.fId = Z at *
      obtain ⟨Zn, Zx, Zl, ⟨Zf⟩, ⟨Zb⟩, ⟨Zu, Zfl, Zfm⟩, ⟨Zq⟩, Zo⟩ := Z
      have hj1 := ind_rToken Zf
      have hj2 := ind_rLease Zb
      have hj3 := ind_rUser Zu
      have hj4 := ind_rJob Zq
      have hj5 := ind_rOwned Zo
      generalize cutB W l.fId = B at *
      obtain ⟨l1, l2, l3, l4, l5, l6⟩ := l
      dsimp only at *
      refine u_25 (Y3 h0' hrem hg) (Z1 c) ?_
      refine ⟨n - (i + 1), by omega, i + 1, rfl, hlt, ?_⟩
      rw [hW]
      exact u_27 hwi
  by_cases c13 : k8 = 1 ∨ k8 = 2 ∨ k8 = 3
  · have hW := hfin (guW W (pickV W x) ⟨[100, 98], [117], 1 + (k20 : Nat), 60⟩ 7 [100, 98, 47, 97]) (by rcases c13 with rfl | rfl | rfl <;> rfl)
    clear hfin m3 m5 m40 m7 m2 hx2
    have c := i_GrantUser_ok (GG := GG) W (pickV W x) ⟨[100, 98], [117], 1 + (k20 : Nat), 60⟩ 7 [100, 98, 47, 97] hfit (by simp) (by simp) (by simp)
    have hw : IntKind.i64.wrap (1 + (k20 : Int)) = 1 + (k20 : Int) := wrap_id (by omega) (by omega)
    generalize guW W (pickV W x) ⟨[100, 98], [117], 1 + (k20 : Nat), 60⟩ 7 [100, 98, 47, 97] = Z at *
    obtain ⟨Zn, Zx, Zl, ⟨Zf⟩, ⟨Zb⟩, ⟨Zu, Zfl, Zfm⟩, ⟨Zq⟩, Zo⟩ := Z
    have hj1 := ind_rToken Zf
    have hj2 := ind_rLease Zb
    have hj3 := ind_rUser Zu
    have hj4 := ind_rJob Zq
    have hj5 := ind_rOwned Zo
    generalize guU W (pickV W x) ⟨[100, 98], [117], 1 + (k20 : Nat), 60⟩ 7 [100, 98, 47, 97] = U at *
    generalize guI W (pickV W x) ⟨[100, 98], [117], 1 + (k20 : Nat), 60⟩ 7 [100, 98, 47, 97] = I at *
    generalize guC W (pickV W x) ⟨[100, 98], [117], 1 + (k20 : Nat), 60⟩ 7 [100, 98, 47, 97] = CC at *
    obtain ⟨u1, u2⟩ := U
    dsimp only at *
    rcases c13 with rfl | rfl | rfl
    · refine u_57 hw (Z1 c) ?_
      refine ⟨n - (i + 1), by omega, i + 1, rfl, hlt, ?_⟩
      rw [hW]
      exact u_27 hwi
    · refine u_57 hw (Z1 c) ?_
      refine ⟨n - (i + 1), by omega, i + 1, rfl, hlt, ?_⟩
      rw [hW]
      exact u_27 hwi
    · refine u_57 hw (Z1 c) ?_
      refine ⟨n - (i + 1), by omega, i + 1, rfl, hlt, ?_⟩
      rw [hW]
      exact u_27 hwi
  by_cases c4 : k8 = 4
  · subst c4
    have hW := hfin (grantW W (pickV W x) [107, 118, 47, 98] (1 + (k20 : Nat)) 30) rfl
    clear hfin m3 m5 m40 m7 m2 hx2
    have c := i_GrantLease_ok (GG := GG) W (pickV W x) [107, 118, 47, 98] (1 + (k20 : Nat)) 30 hfit (by simp)
    have hw : IntKind.i64.wrap (1 + (k20 : Int)) = 1 + (k20 : Int) := wrap_id (by omega) (by omega)
    generalize grantW W (pickV W x) [107, 118, 47, 98] (1 + (k20 : Nat)) 30 = Z at *
    obtain ⟨Zn, Zx, Zl, ⟨Zf⟩, ⟨Zb⟩, ⟨Zu, Zfl, Zfm⟩, ⟨Zq⟩, Zo⟩ := Z
    have hj1 := ind_rToken Zf
    have hj2 := ind_rLease Zb
    have hj3 := ind_rUser Zu
    have hj4 := ind_rJob Zq
    have hj5 := ind_rOwned Zo
    generalize grantI W (pickV W x) [107, 118, 47, 98] (1 + (k20 : Nat)) 30 = I at *
    dsimp only at *
    refine u_57 hw (Z1 c) ?_
    refine ⟨n - (i + 1), by omega, i + 1, rfl, hlt, ?_⟩
    rw [hW]
    exact u_27 hwi
  by_cases c6 : k8 = 6
  · subst c6
    have hW := hfin (ptW W (W.fNow + (k7 : Nat))) rfl
    clear hfin m3 m5 m40 m20 m2 hx2
    have c := i_PassTime_ok (GG := GG) W (W.fNow + (k7 : Nat)) hfit
    have hw : IntKind.i64.wrap (W.fNow + (k7 : Int)) = W.fNow + (k7 : Int) := wrap_id (by omega) (by omega)
    have ht1 := ind_ints (ptT W (W.fNow + (k7 : Nat))).fTokens
    have ht2 := ind_ints (ptT W (W.fNow + (k7 : Nat))).fLeases
    have ht3 := ind_strs (ptT W (W.fNow + (k7 : Nat))).fGone
    have ht4 := ind_strs (ptT W (W.fNow + (k7 : Nat))).fGiven
    generalize ptW W (W.fNow + (k7 : Nat)) = Z at *
    obtain ⟨Zn, Zx, Zl, ⟨Zf⟩, ⟨Zb⟩, ⟨Zu, Zfl, Zfm⟩, ⟨Zq⟩, Zo⟩ := Z
    have hj1 := ind_rToken Zf
    have hj2 := ind_rLease Zb
    have hj3 := ind_rUser Zu
    have hj4 := ind_rJob Zq
    have hj5 := ind_rOwned Zo
    generalize ptT W (W.fNow + (k7 : Nat)) = T at *
    generalize ptB W (W.fNow + (k7 : Nat)) = B at *
    obtain ⟨T1, T2, T3, T4⟩ := T
    dsimp only at *
    repeat' (first | refine W_seq ?_ | refine W_skip ?_ | refine W_block ?_ | refine W_exit ?_ | refine pick_pos rfl ?_ | refine pick_neg rfl ?_ | ((first | refine W_regP fun K hK => ?_ | refine W_regPD fun K hK => ?_ | refine W_ret ?_ | with_reducible refine callQ (c) ?_); simp [Fin, m7, hw]) | (with_reducible refine hK _ ?_; clear hK K) | (with_reducible refine goL_split (fun h => ?_) (fun h => ?_) <;> first | (exfalso; simp at h; first | done | omega | contradiction) | ((try simp at h); simp [m7, hw])) | with_reducible refine And.intro ?_ ?_ | with_reducible exact okay_rfl rfl | with_reducible assumption | (refine W_cond rfl (fun h => ?_) (fun h => ?_) <;> first | (exfalso; simp at h; first | done | omega | contradiction) | (exfalso; simp_all; done) | (try simp at h)) | omega)
    refine ⟨n - (i + 1), by omega, i + 1, rfl, hlt, ?_⟩
    rw [hW]
    exact u_27 hwi
  by_cases c7 : k8 = 7
  · have e2 := hx2 c7
    subst c7 e2
    have hW := hfin (ctW W (pickV W x)) rfl
    clear hfin m3 m5 m40 m20 m7 hx2
    have c := i_CutToken_ok (GG := GG) W (pickV W x) hfit
    have ht1 := ind_ints (ctG W (pickV W x))
    generalize ctW W (pickV W x) = Z at *
    obtain ⟨Zn, Zx, Zl, ⟨Zf⟩, ⟨Zb⟩, ⟨Zu, Zfl, Zfm⟩, ⟨Zq⟩, Zo⟩ := Z
    have hj1 := ind_rToken Zf
    have hj2 := ind_rLease Zb
    have hj3 := ind_rUser Zu
    have hj4 := ind_rJob Zq
    have hj5 := ind_rOwned Zo
    generalize ctG W (pickV W x) = T at *
    dsimp only at *
    repeat' (first | refine W_seq ?_ | refine W_skip ?_ | refine W_block ?_ | refine W_exit ?_ | refine pick_pos rfl ?_ | refine pick_neg rfl ?_ | ((first | refine W_regP fun K hK => ?_ | refine W_regPD fun K hK => ?_ | refine W_ret ?_ | with_reducible refine callQ (c) ?_); simp [Fin, m2]) | (with_reducible refine hK _ ?_; clear hK K) | (with_reducible refine goL_split (fun h => ?_) (fun h => ?_) <;> first | (exfalso; simp at h; first | done | omega | contradiction) | ((try simp at h); simp [m2])) | with_reducible refine And.intro ?_ ?_ | with_reducible exact okay_rfl rfl | with_reducible assumption | (refine W_cond rfl (fun h => ?_) (fun h => ?_) <;> first | (exfalso; simp at h; first | done | omega | contradiction) | (exfalso; simp_all; done) | (try simp at h)) | omega)
    refine ⟨n - (i + 1), by omega, i + 1, rfl, hlt, ?_⟩
    rw [hW]
    exact u_27 hwi
  have c0 : k8 = 0 := by omega
  subst c0
  rw [if_pos rfl] at hfin
  clear c5 c13 c4 c6 c7 hx2 m20 m7 m2
  have hw1 : IntKind.i64.wrap (W.fNow + 1) = W.fNow + 1 := wrap_id (by omega) (by omega)
  have hw2 : IntKind.i64.wrap (W.fNow + 1 + (k40 : Int)) = W.fNow + 1 + (k40 : Int) := wrap_id (by omega) (by omega)
  have hw3 : IntKind.i64.wrap (W.fNext + 1) = W.fNext + 1 := wrap_id (by omega) (by omega)
  have cm := fun (p e : Int) => i_MakeToken_ok (GG := GG) W.fForest ⟨W.fNext, p, [], W.fNow, e, 0, 0⟩ hfit.1 ⟨by simp, by simp⟩ hfo
  have key : ∀ (p e : Int), (if k3 = 0 then 0 else pickV W x) = p → (if k5 = 0 then 0 else W.fNow + 1 + (k40 : Int)) = e → (mkC W.fForest ⟨W.fNext, p, [], W.fNow, e, 0, 0⟩ = 0 → lvW code (i + 1) = { W with fForest := mkF W.fForest ⟨W.fNext, p, [], W.fNow, e, 0, 0⟩, fNext := W.fNext + 1 }) ∧ (mkC W.fForest ⟨W.fNext, p, [], W.fNow, e, 0, 0⟩ ≠ 0 → lvW code (i + 1) = W) := by
    rintro p e rfl rfl
    exact ⟨fun hc => hfin _ (by rw [if_pos hc]), fun hc => hfin _ (by rw [if_neg hc])⟩
  clear hfin
  by_cases h3 : k3 = 0
  · by_cases h5 : k5 = 0
    · have hK := key (0) (0) (by rw [if_pos h3]) (by rw [if_pos h5])
      have c := cm (0) (0)
      simp only [GToken.c, show strsD [] = [] from rfl] at c
      clear key cm
      subst h3
      subst h5
      generalize mkC W.fForest ⟨W.fNext, 0, [], W.fNow, 0, 0, 0⟩ = CC at *
      generalize mkF W.fForest ⟨W.fNext, 0, [], W.fNow, 0, 0, 0⟩ = FF at *
      obtain ⟨ff⟩ := FF
      have hj1 := ind_rToken ff
      dsimp only at *
      by_cases hc : CC = 0
      · have hW := hK.1 hc
        subst hc
        refine u_59 hw3 (Z1 c) ?_
        refine ⟨n - (i + 1), by omega, i + 1, rfl, hlt, ?_⟩
        rw [hW]
        exact u_27 hwi
      · have hW := hK.2 hc
        have hcq : (CC == 0) = false := by simpa using hc
        refine u_59 hcq (Z1 c) ?_
        refine ⟨n - (i + 1), by omega, i + 1, rfl, hlt, ?_⟩
        rw [hW]
        exact u_27 hwi
    · have hK := key (0) (W.fNow + 1 + (k40 : Int)) (by rw [if_pos h3]) (by rw [if_neg h5])
      have c := cm (0) (W.fNow + 1 + (k40 : Int))
      simp only [GToken.c, show strsD [] = [] from rfl] at c
      have g5 : ((0 : Int) < (k5 : Int)) = True := by simp; omega
      have g5' : (0 < k5) = True := by simp; omega
      clear key cm
      subst h3
      generalize mkC W.fForest ⟨W.fNext, 0, [], W.fNow, W.fNow + 1 + (k40 : Int), 0, 0⟩ = CC at *
      generalize mkF W.fForest ⟨W.fNext, 0, [], W.fNow, W.fNow + 1 + (k40 : Int), 0, 0⟩ = FF at *
      obtain ⟨ff⟩ := FF
      have hj1 := ind_rToken ff
      dsimp only at *
      by_cases hc : CC = 0
      · have hW := hK.1 hc
        subst hc
        refine u_61 (Y3 hw3 hw1 hw2) (Z1 c) ?_
        refine ⟨n - (i + 1), by omega, i + 1, rfl, hlt, ?_⟩
        rw [hW]
        exact u_27 hwi
      · have hW := hK.2 hc
        have hcq : (CC == 0) = false := by simpa using hc
        refine u_61 (Y3 hcq hw1 hw2) (Z1 c) ?_
        refine ⟨n - (i + 1), by omega, i + 1, rfl, hlt, ?_⟩
        rw [hW]
        exact u_27 hwi
  · by_cases h5 : k5 = 0
    · have hK := key (pickV W x) (0) (by rw [if_neg h3]) (by rw [if_pos h5])
      have c := cm (pickV W x) (0)
      simp only [GToken.c, show strsD [] = [] from rfl] at c
      have g3 : ((0 : Int) < (k3 : Int)) = True := by simp; omega
      have g3' : (0 < k3) = True := by simp; omega
      clear key cm
      subst h5
      generalize mkC W.fForest ⟨W.fNext, pickV W x, [], W.fNow, 0, 0, 0⟩ = CC at *
      generalize mkF W.fForest ⟨W.fNext, pickV W x, [], W.fNow, 0, 0, 0⟩ = FF at *
      obtain ⟨ff⟩ := FF
      have hj1 := ind_rToken ff
      dsimp only at *
      by_cases hc : CC = 0
      · have hW := hK.1 hc
        subst hc
        refine u_63 hw3 (Z1 c) ?_
        refine ⟨n - (i + 1), by omega, i + 1, rfl, hlt, ?_⟩
        rw [hW]
        exact u_27 hwi
      · have hW := hK.2 hc
        have hcq : (CC == 0) = false := by simpa using hc
        refine u_63 hcq (Z1 c) ?_
        refine ⟨n - (i + 1), by omega, i + 1, rfl, hlt, ?_⟩
        rw [hW]
        exact u_27 hwi
    · have hK := key (pickV W x) (W.fNow + 1 + (k40 : Int)) (by rw [if_neg h3]) (by rw [if_neg h5])
      have c := cm (pickV W x) (W.fNow + 1 + (k40 : Int))
      simp only [GToken.c, show strsD [] = [] from rfl] at c
      have g3 : ((0 : Int) < (k3 : Int)) = True := by simp; omega
      have g3' : (0 < k3) = True := by simp; omega
      have g5 : ((0 : Int) < (k5 : Int)) = True := by simp; omega
      have g5' : (0 < k5) = True := by simp; omega
      clear key cm
      generalize mkC W.fForest ⟨W.fNext, pickV W x, [], W.fNow, W.fNow + 1 + (k40 : Int), 0, 0⟩ = CC at *
      generalize mkF W.fForest ⟨W.fNext, pickV W x, [], W.fNow, W.fNow + 1 + (k40 : Int), 0, 0⟩ = FF at *
      obtain ⟨ff⟩ := FF
      have hj1 := ind_rToken ff
      dsimp only at *
      by_cases hc : CC = 0
      · have hW := hK.1 hc
        subst hc
        refine u_65 (Y3 hw3 hw1 hw2) (Z1 c) ?_
        refine ⟨n - (i + 1), by omega, i + 1, rfl, hlt, ?_⟩
        rw [hW]
        exact u_27 hwi
      · have hW := hK.2 hc
        have hcq : (CC == 0) = false := by simpa using hc
        refine u_65 (Y3 hcq hw1 hw2) (Z1 c) ?_
        refine ⟨n - (i + 1), by omega, i + 1, rfl, hlt, ?_⟩
        rw [hW]
        exact u_27 hwi
abbrev nsOs (W : GWorld) : List (Nat × O) := [(0, .box [.d (.int .i64 W.fNow), .d (.int .i64 W.fNext), .d (.int .i64 W.fLost), .sl 1, .sl 2, .sl 3, .d (.int .i64 W.fFar.fFail), .d (.int .i64 W.fFar.fMade), .sl 4, .sl 5]), (1, .arr 0 1 7 (rToken W.fForest.fTokens)), (2, .arr 0 0 6 (rLease W.fBook.fLeases)), (3, .arr 0 0 2 (rUser W.fFar.fUsers)), (4, .arr 0 0 3 (rJob W.fQueue.fJobs)), (5, .arr 0 0 2 (rOwned W.fOwned))]
theorem law_NoStrayFn [P10 GG] [MaxL GG] (code : List UInt8) (hl : code.length ≤ maxLen) : Valid PP GG 3 [.d (.slc 1 (bytesD code))] (.d (.bool true)) [none] := by
  refine cv Tryz.func3 [.d (.bool true)] ?_
  have cb := big_ok (GG := GG) code hl
  by_cases hbig : 1048576 < code.length
  · rw [decide_eq_true hbig] at cb
    exact u_26 (Z1 cb)
  rw [decide_eq_false hbig] at cb
  have cl := live_ok (GG := GG) code (by omega)
  have hL := (lv_ok code (min code.length 60) (by omega)).lived
  generalize lvW code (min code.length 60) = W at *
  have hwb := hL.ok
  have hfit := fitW_of_ok hwb
  have cw := s_WorldOk_ok (GG := GG) W hfit
  rw [hwb] at cw
  have cs := i_Strays_ok (GG := GG) W hfit
  have hst : (straysV W).length = strayN W.fFar.fUsers W.fOwned W.fQueue.fJobs := by unfold straysV; rw [if_pos hwb, strays_len]
  have hgt : (W.fLost < (((straysV W).length : Nat) : Int)) = False := by have := hL.str; rw [hst]; simp only [eq_iff_iff, iff_false]; omega
  have cp := i_PassTime_ok (GG := GG) W W.fNow hfit
  obtain ⟨hb, hn, hend⟩ := pt_end hL
  have hcnt := pt_count (now := W.fNow) ((world_iff W).1 hwb).bo
  have hfz := fitW_of_ok (lived_pt hL W.fNow).ok
  rw [← (pt_flds hb).2.2.2] at hcnt
  have hT : (ptT W W.fNow).fLeases.length = (ptL W W.fNow).length := by unfold ptT; rw [if_pos hb, List.length_map]
  rw [← hT] at hcnt
  rw [hb] at cp
  have hbl := hfit.2.1.1
  clear hst hL hT hwb hb
  have hi1 := ind_rToken W.fForest.fTokens
  have hi2 := ind_rLease W.fBook.fLeases
  have hi3 := ind_rUser W.fFar.fUsers
  have hi4 := ind_rJob W.fQueue.fJobs
  have hi5 := ind_rOwned W.fOwned
  have ht1 := ind_ints (ptT W W.fNow).fTokens
  have ht2 := ind_ints (ptT W W.fNow).fLeases
  have ht3 := ind_strs (ptT W W.fNow).fGone
  have ht4 := ind_strs (ptT W W.fNow).fGiven
  have ht5 := ind_strs (straysV W)
  have hj1 := ind_rToken (ptW W W.fNow).fForest.fTokens
  have hj2 := ind_rLease (ptW W W.fNow).fBook.fLeases
  have hj3 := ind_rUser (ptW W W.fNow).fFar.fUsers
  have hj4 := ind_rJob (ptW W W.fNow).fQueue.fJobs
  have hj5 := ind_rOwned (ptW W W.fNow).fOwned
  generalize straysV W = SV at *
  generalize ptT W W.fNow = T at *
  generalize ptW W W.fNow = Z at *
  obtain ⟨T1, T2, T3, T4⟩ := T
  dsimp only at *
  have hw : IntKind.i64.wrap (((Z.fBook.fLeases.length : Nat) : Int) + ((T2.length : Nat) : Int)) = ((Z.fBook.fLeases.length : Nat) : Int) + ((T2.length : Nat) : Int) := wrap_id (by omega) (by omega)
  have hne : (((Z.fBook.fLeases.length : Nat) : Int) + ((T2.length : Nat) : Int) != ((W.fBook.fLeases.length : Nat) : Int)) = false := by rw [← hcnt]; simp
  have hzl : Z.fBook.fLeases.length ≤ 1048576 := hfz.2.1.1
  repeat' (first | refine W_seq ?_ | refine W_skip ?_ | refine W_block ?_ | refine W_exit ?_ | refine pick_pos rfl ?_ | refine pick_neg rfl ?_ | ((first | refine W_regP fun K hK => ?_ | refine W_regPD fun K hK => ?_ | refine W_ret ?_ | with_reducible refine callQ (cb) ?_ | with_reducible refine callQ (cl) ?_ | with_reducible refine callQ (cw) ?_ | with_reducible refine callQ (cs) ?_ | with_reducible refine callQ (cp) ?_); simp [Fin, hgt, strsD_len, ints_len, hw, hne]) | (with_reducible refine hK _ ?_; clear hK K) | (with_reducible refine goL_split (fun h => ?_) (fun h => ?_) <;> first | (exfalso; simp at h; first | done | omega | contradiction) | ((try simp at h); simp [hgt, strsD_len, ints_len, hw, hne])) | with_reducible refine And.intro ?_ ?_ | with_reducible exact okay_rfl rfl | with_reducible assumption | (refine W_cond rfl (fun h => ?_) (fun h => ?_) <;> first | (exfalso; simp at h; first | done | omega | contradiction) | (exfalso; simp_all; done) | (try simp at h)) | omega)
  clear cb cl cw cs cp hcnt hw hne hgt
  refine W_loop (fun n st => ∃ i : Nat, n = Z.fBook.fLeases.length - i ∧ i ≤ Z.fBook.fLeases.length ∧ st = ⟨[], [(4, .ptr 0 0), (7, .d (.int .i64 i))], nsOs Z, 6⟩) _ ⟨0, rfl, by omega, ?_⟩ ?_
  · exact u_16
  rintro n st ⟨i, rfl, hi, rfl⟩
  by_cases hlt : i < Z.fBook.fLeases.length
  · have hg := List.getElem?_eq_getElem hlt
    have hm := List.getElem_mem hlt
    generalize Z.fBook.fLeases[i] = l at hg hm
    obtain ⟨e1, e2, e3, e4⟩ := hend l hm
    have cf := s_FindToken_ok (GG := GG) Z.fForest l.fToken hfz.1
    rw [e1, e2] at cf
    have ht6 := ind_strs (findT Z.fForest l.fToken).fNames
    generalize findT Z.fForest l.fToken = t at *
    have h5 : (l.fEnds ≤ W.fNow) = False := by simp; omega
    unfold overB at e3
    rw [← hn] at e3 h5
    clear hend hm hi1 hi2 hi3 hi4 hi5 ht1 ht2 ht3 ht4 ht5
    obtain ⟨l1, l2, l3, l4, l5, l6⟩ := l
    obtain ⟨t1, t2, t3, t4, t5, t6, t7⟩ := t
    dsimp only at *
    have hwi : IntKind.i64.wrap ((i : Int) + 1) = (i : Int) + 1 := wrap_id (by omega) (by omega)
    by_cases h0 : t5 = 0
    · subst h0
      refine u_25 (Y2 hg h5) (Z1 cf) ?_
      refine ⟨Z.fBook.fLeases.length - (i + 1), by omega, i + 1, rfl, hlt, ?_⟩
      exact u_27 hwi
    · have q0 : (t5 != 0) = true := by simpa using h0
      have q1 : (t5 ≤ Z.fNow) = False := by rw [decide_eq_false h0] at e3; simpa using e3
      refine u_25 (Y4 hg h5 q0 q1) (Z1 cf) ?_
      refine ⟨Z.fBook.fLeases.length - (i + 1), by omega, i + 1, rfl, hlt, ?_⟩
      exact u_27 hwi
  · have hie : i = Z.fBook.fLeases.length := by omega
    subst hie
    exact u_21
end Go.Proofs.YtoomonfpedjgoaaGreatDoor.Ab
