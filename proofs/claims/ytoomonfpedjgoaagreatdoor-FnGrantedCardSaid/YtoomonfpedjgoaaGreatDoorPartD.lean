/-
  A part of a proof about the given program; what is proved is said where each theorem stands.
-/
import Derived.Test.YtoomonfpedjgoaaGreatDoorFrameA
import Derived.Test.YtoomonfpedjgoaaGreatDoorFrameB
import Derived.Test.YtoomonfpedjgoaaGreatDoorFrameC
import Derived.Test.YtoomonfpedjgoaaGreatDoorFrameD
import Derived.Test.YtoomonfpedjgoaaGreatDoorFrameE
import Derived.Test.YtoomonfpedjgoaaGreatDoorHead
import Derived.Test.YtoomonfpedjgoaaGreatDoorShelf
import Derived.Test.YtoomonfpedjgoaaGreatDoorPartA
import Derived.Test.YtoomonfpedjgoaaGreatDoorPartB
import Derived.Test.YtoomonfpedjgoaaGreatDoorPartC
namespace Go.Proofs
end Go.Proofs
set_option linter.unusedSimpArgs false
set_option linter.unusedVariables false
set_option maxRecDepth 100000
set_option maxHeartbeats 2000000
namespace Go.Proofs.YtoomonfpedjgoaaGreatDoor.Ab
open Go.Proofs
variable {GG : GV}
theorem lByte_v (c : Cur) (hc : c.good) : Valid PP GG 139 [.box c.o] (.d (.int .i64 (lByte c).1)) [some (.box (lByte c).2.o)] := by
 refine cv Tryz.func139 [.d (.int .i64 (lByte c).1)] ?_
 obtain ⟨b, i, h⟩ := c
 obtain ⟨h1, h2, h3⟩ := hc
 dsimp only at h1 h2 h3
 obtain ⟨k, rfl⟩ := Int.eq_ofNat_of_zero_le h1
 have hx := and64_255 (xor64 ((curH h).fdiv 8589934592) ((curH h).fdiv 35184372088832))
 unfold curH at hx
 by_cases hlt : k < b.length
 ·have hr : lByte ⟨b, (k : Int), h⟩ = (and64 (byteX (curH h) + nthB b k) 255, ⟨b, k + 1, curH h⟩) := by unfold lByte; rw [if_pos (by dsimp only; omega)]
  have hg := List.getElem?_eq_getElem hlt
  have hn : nthB b k = ((b[k].toNat : Nat) : Int) := by unfold nthB; rw [List.getD_eq_getElem?_getD, Int.toNat_natCast, hg]; rfl
  rw [hr, hn]
  unfold curH byteX
  generalize b[k] = x at *
  have hxx := x.toNat_lt
  have hw1 : IntKind.i64.wrap ((k : Int) + 1) = (k : Int) + 1 := wrap_id (by omega) (by omega)
  have hw2 : IntKind.i64.wrap (x.toNat : Nat) = (x.toNat : Nat) := wrap_id (by omega) (by omega)
  have hw3 : IntKind.i64.wrap (and64 (xor64 ((IntKind.i64.wrap (IntKind.i64.wrap (h * 6364136223846793005) + 1442695040888963407)).fdiv 8589934592) ((IntKind.i64.wrap (IntKind.i64.wrap (h * 6364136223846793005) + 1442695040888963407)).fdiv 35184372088832)) 255 + (x.toNat : Nat)) = and64 (xor64 ((IntKind.i64.wrap (IntKind.i64.wrap (h * 6364136223846793005) + 1442695040888963407)).fdiv 8589934592) ((IntKind.i64.wrap (IntKind.i64.wrap (h * 6364136223846793005) + 1442695040888963407)).fdiv 35184372088832)) 255 + (x.toNat : Nat) := wrap_id (by omega) (by omega)
  repeat' (first | refine W_seq ?_ | refine W_skip ?_ | refine W_block ?_ | refine W_exit ?_ | refine pick_pos rfl ?_ | refine pick_neg rfl ?_ | ((first | refine W_regP fun K hK => ?_ | refine W_regPD fun K hK => ?_ | refine W_ret ?_); simp [Fin, hg, and64_ev, xor64_ev, hw1, hw2, hw3]) | (with_reducible refine hK _ ?_; clear hK K) | (with_reducible refine goL_split (fun h => ?_) (fun h => ?_) <;> first | (exfalso; simp at h; first | done | omega | contradiction) | ((try simp at h); simp [hg, and64_ev, xor64_ev, hw1, hw2, hw3])) | with_reducible refine And.intro ?_ ?_ | with_reducible exact okay_rfl rfl | with_reducible assumption | (refine W_cond rfl (fun h => ?_) (fun h => ?_) <;> first | (exfalso; simp at h; first | done | omega | contradiction) | (exfalso; simp_all; done) | (try simp at h)) | omega)
 ·have hr : lByte ⟨b, (k : Int), h⟩ = (byteX (curH h), ⟨b, k, curH h⟩) := by unfold lByte; rw [if_neg (by dsimp only; omega)]
  rw [hr]
  unfold curH byteX
  repeat' (first | refine W_seq ?_ | refine W_skip ?_ | refine W_block ?_ | refine W_exit ?_ | refine pick_pos rfl ?_ | refine pick_neg rfl ?_ | ((first | refine W_regP fun K hK => ?_ | refine W_regPD fun K hK => ?_ | refine W_ret ?_); simp [Fin, and64_ev, xor64_ev]) | (with_reducible refine hK _ ?_; clear hK K) | (with_reducible refine goL_split (fun h => ?_) (fun h => ?_) <;> first | (exfalso; simp at h; first | done | omega | contradiction) | ((try simp at h); simp [and64_ev, xor64_ev])) | with_reducible refine And.intro ?_ ?_ | with_reducible exact okay_rfl rfl | with_reducible assumption | (refine W_cond rfl (fun h => ?_) (fun h => ?_) <;> first | (exfalso; simp at h; first | done | omega | contradiction) | (exfalso; simp_all; done) | (try simp at h)) | omega)
theorem lBelow_v (c : Cur) (n : Int) (hc : c.good) : Valid PP GG 84 [.box c.o, .d (.int .i64 n)] (.d (.int .i64 (lBelow c n).1)) [some (.box (lBelow c n).2.o), none] := by
 refine cv Tryz.func84 [.d (.int .i64 (lBelow c n).1)] ?_
 have c1 := lByte_v (GG := GG) c hc
 have r1 := lByte_rng c
 have c2 := lByte_v (GG := GG) (lByte c).2 (lByte_good hc)
 have r2 := lByte_rng (lByte c).2
 have c3 := lByte_v (GG := GG) (lByte (lByte c).2).2 (lByte_good (lByte_good hc))
 have r3 := lByte_rng (lByte (lByte c).2).2
 have hr : lBelow c n = if n ≤ 0 then (0, c) else if n ≤ 256 then ((lByte c).1.tmod n, (lByte c).2) else
  (((lByte c).1 * 65536 + (lByte (lByte c).2).1 * 256 + (lByte (lByte (lByte c).2).2).1).tmod n, (lByte (lByte (lByte c).2).2).2) := rfl
 by_cases h0 : n ≤ 0
 ·rw [if_pos h0] at hr
  rw [hr]
  clear hr c1 c2 c3
  exact u_20 h0
 rw [if_neg h0] at hr
 have hn0 : ¬ n = 0 := by omega
 by_cases h1 : n ≤ 256
 ·rw [if_pos h1] at hr
  rw [hr]
  clear hr c2 c3
  exact u_29 (Y3 h0 h1 hn0) (Z1 c1)
 ·rw [if_neg h1] at hr
  rw [hr]
  clear hr
  generalize (lByte (lByte (lByte c).2).2) = p3 at *
  generalize (lByte (lByte c).2) = p2 at *
  generalize lByte c = p1 at *
  have hw1 : IntKind.i64.wrap (p1.1 * 65536) = p1.1 * 65536 := wrap_id (by omega) (by omega)
  have hw2 : IntKind.i64.wrap (p2.1 * 256) = p2.1 * 256 := wrap_id (by omega) (by omega)
  have hw3 : IntKind.i64.wrap (p1.1 * 65536 + p2.1 * 256) = p1.1 * 65536 + p2.1 * 256 := wrap_id (by omega) (by omega)
  have hw4 : IntKind.i64.wrap (p1.1 * 65536 + p2.1 * 256 + p3.1) = p1.1 * 65536 + p2.1 * 256 + p3.1 := wrap_id (by omega) (by omega)
  exact u_29 (Y7 h0 h1 hn0 hw1 hw2 hw3 hw4) (Z3 c1 c2 c3)
theorem lOnce_v (c : Cur) (n : Int) (hc : c.good) : Valid PP GG 86 [.box c.o, .d (.int .i64 n)] (.d (.bool (lOnce c n).1)) [some (.box (lOnce c n).2.o), none] := by
 refine cv Tryz.func86 [.d (.bool (lOnce c n).1)] ?_
 have c1 := lBelow_v (GG := GG) c n hc
 have e : lOnce c n = (decide ((lBelow c n).1 = 0), (lBelow c n).2) := rfl
 rw [e]
 have hq : ((lBelow c n).1 == 0) = decide ((lBelow c n).1 = 0) := rfl
 exact u_29 hq (Z1 c1)
theorem lPickI_v (c : Cur) (l : List Int) (hc : c.good) (hl : l ≠ []) (hs : l.length ≤ 100) : Valid PP GG 87 [.box c.o, .own 0 1 (intsD l)] (.d (.int .i64 (lPick c 0 l).1)) [some (.box (lPick c 0 l).2.o), none] := by
 refine cv Tryz.func87 [.d (.int .i64 (lPick c 0 l).1)] ?_
 have c1 := lBelow_v (GG := GG) c l.length hc
 obtain ⟨k, hk, hg⟩ := lPick_get c (0 : Int) hl
 have e : (lPick c 0 l).2 = (lBelow c l.length).2 := rfl
 rw [e]
 have hkl := (List.getElem?_eq_some_iff.1 hg).1
 generalize (lPick c 0 l).1 = v at *
 generalize (lBelow c l.length).2 = c2 at *
 rw [hk] at c1
 repeat' (first | refine W_seq ?_ | refine W_skip ?_ | refine W_block ?_ | refine W_exit ?_ | refine pick_pos rfl ?_ | refine pick_neg rfl ?_ | ((first | refine W_regP fun K hK => ?_ | refine W_regPD fun K hK => ?_ | refine W_ret ?_ | with_reducible refine callQ (c1) ?_); simp [Fin, ints_len, ints_get, hg]) | (with_reducible refine hK _ ?_; clear hK K) | (with_reducible refine goL_split (fun h => ?_) (fun h => ?_) <;> first | (exfalso; simp at h; first | done | omega | contradiction) | ((try simp at h); simp [ints_len, ints_get, hg])) | with_reducible refine And.intro ?_ ?_ | with_reducible exact okay_rfl rfl | with_reducible assumption | (refine W_cond rfl (fun h => ?_) (fun h => ?_) <;> first | (exfalso; simp at h; first | done | omega | contradiction) | (exfalso; simp_all; done) | (try simp at h)) | omega)
theorem lPickT_v (c : Cur) (l : List (List UInt8)) (hc : c.good) (hl : l ≠ []) (hs : l.length ≤ 100) : Valid PP GG 88 [.box c.o, .own 0 1 (strsD l)] (.d (.str (lPick c [] l).1)) [some (.box (lPick c [] l).2.o), none] := by
 refine cv Tryz.func88 [.d (.str (lPick c [] l).1)] ?_
 have c1 := lBelow_v (GG := GG) c l.length hc
 obtain ⟨k, hk, hg⟩ := lPick_get c ([] : List UInt8) hl
 have e : (lPick c [] l).2 = (lBelow c l.length).2 := rfl
 rw [e]
 have hkl := (List.getElem?_eq_some_iff.1 hg).1
 generalize (lPick c [] l).1 = v at *
 generalize (lBelow c l.length).2 = c2 at *
 rw [hk] at c1
 exact u_68 hg (Z1 c1)
theorem lSize_v (code : List UInt8) (most : Int) (hs : code.length ≤ 1048577) : Valid PP GG 85 [.d (.slc 1 (bytesD code)), .d (.int .i64 most)] (.d (.int .i64 (lSize code.length most))) [none, none] := by
 refine cv Tryz.func85 [.d (.int .i64 (lSize code.length most))] ?_
 have hl : (bytesD code).length = code.length := bytesD_len code
 have ht : ((code.length : Nat) : Int).tdiv 16 = ((code.length / 16 : Nat) : Int) := rfl
 have hr : lSize code.length most = if most < 2 + ((code.length / 16 : Nat) : Int) then most else 2 + ((code.length / 16 : Nat) : Int) := rfl
 have hb : code.length / 16 ≤ 65537 := by omega
 generalize code.length / 16 = q at *
 have hw1 : IntKind.i64.wrap (q : Int) = (q : Int) := wrap_id (by omega) (by omega)
 have hw2 : IntKind.i64.wrap (2 + (q : Int)) = 2 + (q : Int) := wrap_id (by omega) (by omega)
 by_cases h : most < 2 + (q : Int)
 ·rw [if_pos h] at hr
  rw [hr]
  exact u_20 (Y4 hl ht hw1 hw2)
 ·rw [if_neg h] at hr
  rw [hr]
  exact u_20 (Y4 hl ht hw1 hw2)
theorem lSeg_v (c : Cur) (hc : c.good) : Valid PP GG 89 [.box c.o] (.d (.str (lSeg c).1)) [some (.box (lSeg c).2.o)] := by
 refine cv Tryz.func89 [.d (.str (lSeg c).1)] ?_
 have c1 := lOnce_v (GG := GG) c 25 hc
 have c2 : Valid PP GG 88 [.box (lOnce c 25).2.o, .own 0 1 [[.str []], [.str [65]], [.str [97, 47, 98]], [.str [97, 98, 99, 100, 101, 102, 103, 104, 105, 106, 107, 108, 109, 110, 111, 112]], [.str [97, 98, 99, 100, 101, 102, 103, 104, 105, 106, 107, 108, 109, 110, 111, 112, 113]], [.str [45]], [.str [97, 32, 98]], [.str [43, 97]], [.str [42, 42]]]] (.d (.str (lPick (lOnce c 25).2 [] seg1).1)) [some (.box (lPick (lOnce c 25).2 [] seg1).2.o), none] := lPickT_v (lOnce c 25).2 seg1 (lOnce_good hc _) (by decide) (by decide)
 have c3 : Valid PP GG 88 [.box (lOnce c 25).2.o, .own 0 1 [[.str [97]], [.str [98]], [.str [99]], [.str [107, 118]], [.str [100, 98]], [.str [120, 45, 49]], [.str [57]]]] (.d (.str (lPick (lOnce c 25).2 [] seg2).1)) [some (.box (lPick (lOnce c 25).2 [] seg2).2.o), none] := lPickT_v (lOnce c 25).2 seg2 (lOnce_good hc _) (by decide) (by decide)
 have hr : lSeg c = if (lOnce c 25).1 = true then lPick (lOnce c 25).2 [] seg1 else lPick (lOnce c 25).2 [] seg2 := rfl
 generalize lPick (lOnce c 25).2 [] seg1 = p at *
 generalize lPick (lOnce c 25).2 [] seg2 = q at *
 generalize lOnce c 25 = o at *
 obtain ⟨ob, oc⟩ := o
 cases ob
 ·rw [if_neg (by simp)] at hr
  rw [hr]
  clear hr c2
  exact u_31 (Z2 c1 c3)
 ·rw [if_pos rfl] at hr
  rw [hr]
  clear hr c3
  exact u_31 (Z2 c1 c2)
theorem hRun_succ {l : List UInt8} {i : Nat} {x : UInt8} (h : l[i]? = some x) (a : Int) : hRun a (l.take (i + 1)) = hStep (hRun a (l.take i)) x := by
 rw [List.take_add_one, h]
 unfold hRun
 rw [List.foldl_append]
 rfl
theorem lNew_v (code : List UInt8) (hl : code.length ≤ 1048577) : Valid PP GG 82 [.d (.slc 1 (bytesD code))] (.box (lNew code).o) [none] := by
 refine cv Tryz.func82 [.box (lNew code).o] ?_
 have hbl : (bytesD code).length = code.length := bytesD_len code
 have hw0 : IntKind.i64.wrap (705705 + (code.length : Nat)) = 705705 + (code.length : Nat) := wrap_id (by omega) (by omega)
 refine u_21 (Y2 hbl hw0) ?_
 refine W_loop (fun n st => ∃ i : Nat, n = code.length - i ∧ i ≤ code.length ∧ i ≤ 4000 ∧
  st = ⟨[], [(0, .d (.slc 1 (bytesD code))), (3, .d (.int .i64 (hRun (705705 + (code.length : Nat)) (code.take i)))), (4, .d (.int .i64 i))], [], 0⟩) _ ⟨0, rfl, by omega, by omega, ?_⟩ ?_
 ·simp [gc, closeN, liveA, gcV, gcO, renA, renAs, renO, namesAs, namesA, namesO, posn, hRun]
 rintro n st ⟨i, rfl, hi, hi2, rfl⟩
 by_cases hlt : i < code.length
 ·by_cases h4 : i < 4000
  ·have ha := List.getElem?_eq_getElem hlt
   generalize code[i] = x at ha
   have hs := hRun_succ ha (705705 + (code.length : Nat))
   unfold hStep at hs
   have hx := x.toNat_lt
   generalize hRun (705705 + (code.length : Nat)) (code.take i) = H at *
   have hw1 : IntKind.i64.wrap (x.toNat : Nat) = (x.toNat : Nat) := wrap_id (by omega) (by omega)
   repeat' (first | refine W_seq ?_ | refine W_skip ?_ | refine W_block ?_ | refine W_exit ?_ | refine pick_pos rfl ?_ | refine pick_neg rfl ?_ | ((first | refine W_regP fun K hK => ?_ | refine W_regPD fun K hK => ?_ | refine W_ret ?_); simp [Fin, ha, hbl, and64_ev, hw1]) | (with_reducible refine hK _ ?_; clear hK K) | (with_reducible refine goL_split (fun h => ?_) (fun h => ?_) <;> first | (exfalso; simp at h; first | done | omega | contradiction) | ((try simp at h); simp [ha, hbl, and64_ev, hw1])) | with_reducible refine And.intro ?_ ?_ | with_reducible exact okay_rfl rfl | with_reducible assumption | (refine W_cond rfl (fun h => ?_) (fun h => ?_) <;> first | (exfalso; simp at h; first | done | omega | contradiction) | (exfalso; simp_all; done) | (try simp at h)) | omega)
   refine ⟨code.length - (i + 1), by omega, i + 1, rfl, by omega, by omega, ?_⟩
   rw [hs]
   refine u_25 ?_
   exact wrap_id (by omega) (by omega)
  ·have hie : i = 4000 := by omega
   subst hie
   have e : lNew code = ⟨code, 0, hRun (705705 + (code.length : Nat)) (code.take 4000)⟩ := rfl
   rw [e]
   exact u_20 hbl
 ·have hie : i = code.length := by omega
  subst hie
  have e : lNew code = ⟨code, 0, hRun (705705 + (code.length : Nat)) (code.take code.length)⟩ := by
   unfold lNew
   rw [List.take_of_length_le (Nat.le_refl code.length), List.take_of_length_le hi2]
  rw [e]
  exact u_20 hbl
theorem lPath_v (c : Cur) (hc : c.good) : Valid PP GG 43 [.box c.o] (.d (.str (lPath c).1)) [some (.box (lPath c).2.o)] := by
 refine cv Tryz.func43 [.d (.str (lPath c).1)] ?_
 have hr : lPath c = lPathL ((lSeg c).1, (lPathN (lSeg c).2).2) (lPathN (lSeg c).2).1.toNat := rfl
 have c1 := lSeg_v (GG := GG) c hc
 have g1 := lSeg_good hc
 have l1 := lSeg_len c
 generalize lSeg c = s at *
 have hN : lPathN s.2 = if (lOnce (lBelow s.2 4).2 20).1 = true then (7 + (lBelow (lOnce (lBelow s.2 4).2 20).2 2).1, (lBelow (lOnce (lBelow s.2 4).2 20).2 2).2) else ((lBelow s.2 4).1, (lOnce (lBelow s.2 4).2 20).2) := rfl
 have rN := lPathN_rng s.2
 have gN := lPathN_good g1
 have c2 := lBelow_v (GG := GG) s.2 4 g1
 have g2 := lBelow_good g1 4
 have r2 := lBelow_rng s.2 (n := 4) (by omega)
 generalize lBelow s.2 4 = n at *
 have c3 := lOnce_v (GG := GG) n.2 20 g2
 have g3 := lOnce_good g2 20
 generalize lOnce n.2 20 = o at *
 obtain ⟨o1, o2⟩ := o
 dsimp only at g3 hN
 have c4 := lBelow_v (GG := GG) o2 2 g3
 have r4 := lBelow_rng o2 (n := 2) (by omega)
 generalize lBelow o2 2 = m at *
 rw [hr]
 clear hr
 generalize lPathN s.2 = N at *
 obtain ⟨N1, N2⟩ := N
 dsimp only at rN gN ⊢
 refine u_1 ?_
 refine u_11 (Z1 c1) ?_
 refine u_11 (Z1 c2) ?_
 refine W_cut [0, 3, 4] (fun st' => st' = ⟨[], [(0, .ptr 0 0), (3, .d (.str s.1)), (4, .d (.int .i64 N1))], [(0, .box [.d (.slc 1 (bytesD N2.b)), .d (.int .i64 N2.i), .d (.int .i64 N2.h)])], 1⟩) ?_ ?_
 ·cases o1
  ·rw [if_neg (by simp)] at hN
   injection hN with e1 e2
   subst e1 e2
   clear c4
   refine u_36 (Z1 c3) ?_
   exact u_22
  ·rw [if_pos rfl] at hN
   injection hN with e1 e2
   subst e1 e2
   have hw : IntKind.i64.wrap (7 + m.1) = 7 + m.1 := wrap_id (by omega) (by omega)
   refine u_30 hw (Z2 c3 c4) ?_
   exact u_22
 rintro st rfl
 clear hN c1 c2 c3 c4
 refine u_28 ?_
 refine W_loop (fun k st => ∃ i : Nat, k = N1.toNat - i ∧ i ≤ N1.toNat ∧
  st = ⟨[], [(0, .ptr 0 0), (3, .d (.str (lPathL (s.1, N2) i).1)), (4, .d (.int .i64 N1)), (5, .d (.int .i64 i))], [(0, .box [.d (.slc 1 (bytesD (lPathL (s.1, N2) i).2.b)), .d (.int .i64 (lPathL (s.1, N2) i).2.i), .d (.int .i64 (lPathL (s.1, N2) i).2.h)])], 1⟩) _ ⟨0, rfl, by omega, ?_⟩ ?_
 ·simp [gc, closeN, liveA, gcV, gcO, renA, renAs, renO, namesAs, namesA, namesO, posn, lPathL]
 rintro k st ⟨i, rfl, hi, rfl⟩
 by_cases hlt : (i : Int) < N1
 rotate_left
 ·have hie : N1.toNat = i := by omega
  rw [hie]
  generalize lPathL (s.1, N2) i = L at *
  exact u_20 hlt
 have hs : lPathL (s.1, N2) (i + 1) = ((lPathL (s.1, N2) i).1 ++ [47] ++ (lSeg (lPathL (s.1, N2) i).2).1, (lSeg (lPathL (s.1, N2) i).2).2) := rfl
 have gL := lPathL_good (s := (s.1, N2)) gN i
 have hL := lPathL_len (s.1, N2) i
 generalize lPathL (s.1, N2) i = L at *
 have c5 := lSeg_v (GG := GG) L.2 gL
 have l5 := lSeg_len L.2
 generalize lSeg L.2 = S at *
 dsimp only at hL
 repeat' (first | refine W_seq ?_ | refine W_skip ?_ | refine W_block ?_ | refine W_exit ?_ | refine pick_pos rfl ?_ | refine pick_neg rfl ?_ | ((first | refine W_regP fun K hK => ?_ | refine W_regPD fun K hK => ?_ | refine W_ret ?_ | with_reducible refine callQ (c5) ?_); simp [Fin, hlt, maxStr]) | (with_reducible refine hK _ ?_; clear hK K) | (with_reducible refine goL_split (fun h => ?_) (fun h => ?_) <;> first | (exfalso; simp at h; first | done | omega | contradiction) | ((try simp at h); simp [hlt, maxStr])) | with_reducible refine And.intro ?_ ?_ | with_reducible exact okay_rfl rfl | with_reducible assumption | (refine W_cond rfl (fun h => ?_) (fun h => ?_) <;> first | (exfalso; simp at h; first | done | omega | contradiction) | (exfalso; simp_all; done) | (try simp at h)) | omega)
 refine ⟨N1.toNat - (i + 1), by omega, i + 1, rfl, by omega, ?_⟩
 rw [hs]
 refine u_25 ?_
 exact wrap_id (by omega) (by omega)
theorem big_ok (code : List UInt8) (h : code.length ≤ maxLen) : Valid PP GG 5 [.d (.slc 1 (bytesD code))] (.d (.bool (decide (1048576 < code.length)))) [none] := by
 refine cv Tryz.func5 [.d (.bool (decide (1048576 < code.length)))] ?_
 have hbl := bytesD_len code
 have hd : decide ((1048576 : Int) < (code.length : Nat)) = decide (1048576 < code.length) := decide_eq_decide.2 (by omega)
 exact u_20 (Y2 hbl hd)
structure GRole where
 fName : List UInt8
 fPrefix : List UInt8
 fTtl : Int
 fLimit : Int
 deriving DecidableEq
@[simp] abbrev GRole.row (x : GRole) : List D := [.str x.fName, .str x.fPrefix, .int .i64 x.fTtl, .int .i64 x.fLimit]
@[simp] abbrev GRole.c (x : GRole) : List C := [.d (.str x.fName), .d (.str x.fPrefix), .d (.int .i64 x.fTtl), .d (.int .i64 x.fLimit)]
@[simp] abbrev GRole.o (x : GRole) : List C := [.d (.str x.fName), .d (.str x.fPrefix), .d (.int .i64 x.fTtl), .d (.int .i64 x.fLimit)]
def GRole.cost (x : GRole) : Nat := x.fName.length + x.fPrefix.length
def GRole.ok (x : GRole) : Prop := x.fName.length ≤ maxLen ∧ x.fPrefix.length ≤ maxLen ∧ int64 x.fTtl ∧ int64 x.fLimit
def roleB (r : GRole) : Bool := nameOk r.fName && nameOk r.fPrefix && decide (r.fPrefix.length ≤ 6) && inB r.fLimit 1 1000000 && inB r.fTtl 1 r.fLimit
theorem s_RoleOk_ok (r : GRole) (h1 : r.fName.length ≤ 1048576) (h2 : r.fPrefix.length ≤ 1048576) : Valid PP GG 44 [.agg r.c] (.d (.bool (roleB r))) [none] := by
 refine cv Tryz.func44 [.d (.bool (roleB r))] ?_
 have c1 := l01Name_ok (GG := GG) r.fName (by omega)
 have c2 := l01Name_ok (GG := GG) r.fPrefix (by omega)
 have c3 : Valid PP GG 23 [.d (.int .i64 r.fLimit), .d (.int .i64 1), .d (.int .i64 1000000)] (.d (.bool (inB r.fLimit 1 1000000))) [none, none, none] := l01In_ok _ _ _
 have c4 : Valid PP GG 23 [.d (.int .i64 r.fTtl), .d (.int .i64 1), .d (.int .i64 r.fLimit)] (.d (.bool (inB r.fTtl 1 r.fLimit))) [none, none, none] := l01In_ok _ _ _
 obtain ⟨t, ht⟩ : ∃ t, roleB r = t := ⟨_, rfl⟩
 rw [ht]
 unfold roleB at ht
 have hd : decide ((r.fPrefix.length : Int) ≤ 6) = decide (r.fPrefix.length ≤ 6) := decide_eq_decide.2 (by omega)
 generalize nameOk r.fName = a at *
 generalize nameOk r.fPrefix = b at *
 generalize decide (r.fPrefix.length ≤ 6) = d at *
 generalize inB r.fLimit 1 1000000 = x at *
 generalize inB r.fTtl 1 r.fLimit = y at *
 subst ht
 cases a
 ·exact u_31 (Z1 c1)
 cases b
 ·exact u_31 (Z2 c1 c2)
 cases d
 ·exact u_29 hd (Z2 c1 c2)
 cases x
 ·exact u_29 hd (Z3 c1 c2 c3)
 ·exact u_29 hd (Z4 c1 c2 c3 c4)
theorem isRole_ok [MaxL GG] (r : GRole) (h1 : r.fName.length ≤ 1048576) (h2 : r.fPrefix.length ≤ 1048576) : Valid PP GG 99 [.agg r.c] (.d (.bool (roleB r))) [none] := by
 refine cv Tryz.func99 [.d (.bool (roleB r))] ?_
 have c1 := isName_ok (GG := GG) r.fName (by omega)
 have c2 := isName_ok (GG := GG) r.fPrefix (by omega)
 have c3 : Valid PP GG 34 [.d (.int .i64 r.fLimit), .d (.int .i64 1), .d (.int .i64 1000000)] (.d (.bool (inB r.fLimit 1 1000000))) [none, none, none] := within_ok _ _ _
 have c4 : Valid PP GG 34 [.d (.int .i64 r.fTtl), .d (.int .i64 1), .d (.int .i64 r.fLimit)] (.d (.bool (inB r.fTtl 1 r.fLimit))) [none, none, none] := within_ok _ _ _
 obtain ⟨t, ht⟩ : ∃ t, roleB r = t := ⟨_, rfl⟩
 rw [ht]
 unfold roleB at ht
 have hd : decide ((r.fPrefix.length : Int) ≤ 6) = decide (r.fPrefix.length ≤ 6) := decide_eq_decide.2 (by omega)
 generalize nameOk r.fName = a at *
 generalize nameOk r.fPrefix = b at *
 generalize decide (r.fPrefix.length ≤ 6) = d at *
 generalize inB r.fLimit 1 1000000 = x at *
 generalize inB r.fTtl 1 r.fLimit = y at *
 subst ht
 cases a
 ·exact u_31 (Z1 c1)
 cases b
 ·exact u_31 (Z2 c1 c2)
 cases d
 ·exact u_29 hd (Z2 c1 c2)
 cases x
 ·exact u_29 hd (Z3 c1 c2 c3)
 ·exact u_29 hd (Z4 c1 c2 c3 c4)
def insUser_ren : Go.Shelf.Ren := ⟨fun | 22 => 147 | 29 => 174 | 30 => 175 | n => n, fun | 24 => 30 | 9 => 59 | n => n, fun n => n⟩
theorem insUser : InsL PP insUser_ren 2 32 (.agg #[.string ⟨#[]⟩, .string ⟨#[]⟩]) := {
 mixed := by kernel_rfl
 f22 := ⟨"slices.Insert[[]loop.example/g00705/impl.User,loop.example/g00705/impl.User]", by decide, Tryz.func147.trans (congrArg some (by kernel_rfl))⟩
 f29 := fun args w => run_callFunc_extern Tryz.func174 (by kernel_rfl) (by kernel_rfl) (by kernel_rfl) (e := Extern.SlicesOverlaps.overlaps #[30, 30] #[4]) (by kernel_rfl) args w
 t0 := Tryz.underlying0
 a0 := Tryz.isAgg0
 z0 := Tryz.sizeOf0
 v0 := Tryz.zeroValue0
 t3 := Tryz.underlying3
 a3 := Tryz.isAgg3
 z3 := Tryz.sizeOf3
 v3 := Tryz.zeroValue3
 t4 := Tryz.underlying4
 a4 := Tryz.isAgg4
 z4 := Tryz.sizeOf4
 v4 := Tryz.zeroValue4
 t24 := Tryz.underlying30
 a24 := Tryz.isAgg30
 z24 := Tryz.sizeOf30
 v24 := Tryz.zeroValue30
 i9 := by kernel_rfl
 hsz := by omega
 hzs := rfl
 hz1 := rfl
}
theorem InsertUser_ok (a : List GUser) (u : GUser) (i : Nat) (hi : i ≤ a.length) (hl : a.length ≤ 1048576) : Valid PP GG 147 [.own 0 2 (rUser a), .d (.int .i64 i), .own 0 2 [u.row]] (.own 0 2 (rUser (a.take i ++ u :: a.drop i))) [none, none, none] := by
 have h := insert_valid (G := GG) insUser ⟨Tryz.f147, Tryz.func147, by kernel_rfl, by kernel_rfl⟩ (k := 0) (rows := rUser a) (row := u.row) i (by rw [rUser_len]; exact hi) (by rw [rUser_len]; omega) (by rw [rUser_len]; omega)
 rw [show (rUser a).take i ++ u.row :: (rUser a).drop i = rUser (a.take i ++ u :: a.drop i) by simp [rUser]] at h
 exact h
theorem Repeat_ok (s : List UInt8) (c : Nat) (hc : s.length * c ≤ 1048576) (hc2 : c ≤ 1048576) : Valid PP GG 190 [.d (.str s), .d (.int .i64 c)] (.d (.str (Lib.repeatL s c))) [none, none] := by
 refine lib_new [.str s, .int .i64 c] ⟨Tryz.f190, Tryz.func190, by kernel_rfl, by kernel_rfl⟩ fun w Fz args hG hFz hl hA => ?_
 have e : args = #[.string ⟨s.toArray⟩, .int .i64 c] := by
  refine args_eq (l := [.string ⟨s.toArray⟩, .int .i64 c]) hl fun i v hv => ?_
  match i, hv with
  | 0, hv => cases hv; exact shr_str (hA 0 _ rfl)
  | 1, hv => cases hv; exact shr_int (hA 1 _ rfl)
 subst e
 refine (Go.Proofs.YtoomonfpedjgoaaGreatDoor.Tryz.strings_Repeat ⟨s.toArray⟩ c w (by omega) (by show s.toArray.size * c ≤ _; simp; omega)).mono ?_
 rintro e w' ⟨rfl, hb⟩
 exact ⟨_, Fz, fun _ _ => False, rfl, ⟨hb.os, hb.output⟩, hb.size, fun b h => hb.block b h, fun _ _ h => h, fun b o h => ⟨.inl h, Nat.lt_of_lt_of_le (hFz b o h) hb.size⟩, .d _ _ _ (.str _) fun _ _ h => h, fun _ _ h => h.elim⟩
def decB (m : Nat) (i : Nat) : UInt8 := UInt8.ofNat (48 + m / 10 ^ i % 10)
def six (m : Nat) : List UInt8 := [decB m 5, decB m 4, decB m 3, decB m 2, decB m 1, decB m 0]
theorem decDigits_step {u : Nat} (h : ¬ u < 10) : Lib.decDigits u = Lib.decDigits (u / 10) ++ [UInt8.ofNat (48 + u % 10)] := by
 rw [Lib.decDigits, dif_neg h]
theorem six_mod (n : Nat) : six n = six (n % 1000000) := by
 have h : ∀ i, i < 6 → decB n i = decB (n % 1000000) i := by
  intro i hi
  unfold decB
  have : n / 10 ^ i % 10 = n % 1000000 / 10 ^ i % 10 := by
   match i, hi with
   | 0, _ => simp only [Nat.pow_zero]; omega
   | 1, _ => simp only [Nat.reducePow]; omega
   | 2, _ => simp only [Nat.reducePow]; omega
   | 3, _ => simp only [Nat.reducePow]; omega
   | 4, _ => simp only [Nat.reducePow]; omega
   | 5, _ => simp only [Nat.reducePow]; omega
  rw [this]
 unfold six
 rw [h 0 (by omega), h 1 (by omega), h 2 (by omega), h 3 (by omega), h 4 (by omega), h 5 (by omega)]
theorem decB_eq {m i q : Nat} (h : m / 10 ^ i % 10 = q) : decB m i = UInt8.ofNat (48 + q) := by unfold decB; rw [h]
theorem six_itoa (n : Nat) : Lib.repeatL [48] (6 - (Lib.itoa ((n % 1000000 : Nat) : Int)).length) ++ Lib.itoa ((n % 1000000 : Nat) : Int) = six n ∧ 1 ≤ (Lib.itoa ((n % 1000000 : Nat) : Int)).length ∧ (Lib.itoa ((n % 1000000 : Nat) : Int)).length ≤ 6 := by
 rw [six_mod]
 have hm : n % 1000000 < 1000000 := Nat.mod_lt _ (by omega)
 generalize n % 1000000 = m at hm
 rw [Lib.itoa_nonneg]
 have p1 : ∀ u, u / 10 = u / 10 ^ 1 := fun _ => rfl
 by_cases h1 : m < 10
 ·rw [Lib.decDigits_one h1]
  have e0 := decB_eq (m := m) (i := 0) (q := m) (by simp only [Nat.pow_zero]; omega)
  have e1 := decB_eq (m := m) (i := 1) (q := 0) (by simp only [Nat.reducePow]; omega)
  have e2 := decB_eq (m := m) (i := 2) (q := 0) (by simp only [Nat.reducePow]; omega)
  have e3 := decB_eq (m := m) (i := 3) (q := 0) (by simp only [Nat.reducePow]; omega)
  have e4 := decB_eq (m := m) (i := 4) (q := 0) (by simp only [Nat.reducePow]; omega)
  have e5 := decB_eq (m := m) (i := 5) (q := 0) (by simp only [Nat.reducePow]; omega)
  refine ⟨?_, by simp, by simp⟩
  unfold six; rw [e0, e1, e2, e3, e4, e5]; rfl
 have s1 := decDigits_step h1
 have e0 := decB_eq (m := m) (i := 0) (q := m % 10) (by simp only [Nat.pow_zero]; omega)
 by_cases h2 : m < 100
 ·rw [s1, Lib.decDigits_one (by omega)]
  have e1 := decB_eq (m := m) (i := 1) (q := m / 10) (by simp only [Nat.reducePow]; omega)
  have e2 := decB_eq (m := m) (i := 2) (q := 0) (by simp only [Nat.reducePow]; omega)
  have e3 := decB_eq (m := m) (i := 3) (q := 0) (by simp only [Nat.reducePow]; omega)
  have e4 := decB_eq (m := m) (i := 4) (q := 0) (by simp only [Nat.reducePow]; omega)
  have e5 := decB_eq (m := m) (i := 5) (q := 0) (by simp only [Nat.reducePow]; omega)
  refine ⟨?_, by simp, by simp⟩
  unfold six; rw [e0, e1, e2, e3, e4, e5]; rfl
 have s2 := decDigits_step (u := m / 10) (by omega)
 have e1 := decB_eq (m := m) (i := 1) (q := m / 10 % 10) (by simp only [Nat.reducePow])
 by_cases h3 : m < 1000
 ·rw [s1, s2, Lib.decDigits_one (by omega)]
  have e2 := decB_eq (m := m) (i := 2) (q := m / 10 / 10) (by simp only [Nat.reducePow]; omega)
  have e3 := decB_eq (m := m) (i := 3) (q := 0) (by simp only [Nat.reducePow]; omega)
  have e4 := decB_eq (m := m) (i := 4) (q := 0) (by simp only [Nat.reducePow]; omega)
  have e5 := decB_eq (m := m) (i := 5) (q := 0) (by simp only [Nat.reducePow]; omega)
  refine ⟨?_, by simp, by simp⟩
  unfold six; rw [e0, e1, e2, e3, e4, e5]; rfl
 have s3 := decDigits_step (u := m / 10 / 10) (by omega)
 have e2 := decB_eq (m := m) (i := 2) (q := m / 10 / 10 % 10) (by simp only [Nat.reducePow]; omega)
 by_cases h4 : m < 10000
 ·rw [s1, s2, s3, Lib.decDigits_one (by omega)]
  have e3 := decB_eq (m := m) (i := 3) (q := m / 10 / 10 / 10) (by simp only [Nat.reducePow]; omega)
  have e4 := decB_eq (m := m) (i := 4) (q := 0) (by simp only [Nat.reducePow]; omega)
  have e5 := decB_eq (m := m) (i := 5) (q := 0) (by simp only [Nat.reducePow]; omega)
  refine ⟨?_, by simp, by simp⟩
  unfold six; rw [e0, e1, e2, e3, e4, e5]; rfl
 have s4 := decDigits_step (u := m / 10 / 10 / 10) (by omega)
 have e3 := decB_eq (m := m) (i := 3) (q := m / 10 / 10 / 10 % 10) (by simp only [Nat.reducePow]; omega)
 by_cases h5 : m < 100000
 ·rw [s1, s2, s3, s4, Lib.decDigits_one (by omega)]
  have e4 := decB_eq (m := m) (i := 4) (q := m / 10 / 10 / 10 / 10) (by simp only [Nat.reducePow]; omega)
  have e5 := decB_eq (m := m) (i := 5) (q := 0) (by simp only [Nat.reducePow]; omega)
  refine ⟨?_, by simp, by simp⟩
  unfold six; rw [e0, e1, e2, e3, e4, e5]; rfl
 have s5 := decDigits_step (u := m / 10 / 10 / 10 / 10) (by omega)
 have e4 := decB_eq (m := m) (i := 4) (q := m / 10 / 10 / 10 / 10 % 10) (by simp only [Nat.reducePow]; omega)
 rw [s1, s2, s3, s4, s5, Lib.decDigits_one (by omega)]
 have e5 := decB_eq (m := m) (i := 5) (q := m / 10 / 10 / 10 / 10 / 10) (by simp only [Nat.reducePow]; omega)
 refine ⟨?_, by simp, by simp⟩
 unfold six; rw [e0, e1, e2, e3, e4, e5]; rfl
def lastN (m : Nat) : Nat → List UInt8
 | 0 => []
 | i + 1 => decB m i :: lastN m i
theorem lastN_len (m : Nat) : ∀ i, (lastN m i).length = i
 | 0 => rfl
 | i + 1 => by rw [lastN, List.length_cons, lastN_len m i]
def uName (r : GRole) (n : Int) : List UInt8 := r.fPrefix ++ six n.toNat
theorem rem10 (q : Nat) : intBin .rem .i64 (q : Int) 10 = some (.int .i64 ((q % 10 : Nat) : Int)) := by
 rw [intBin_rem _ _ _ (by omega), Int.tmod_eq_emod_of_nonneg (by omega)]; rfl
theorem quo10 (q : Nat) (hq : q ≤ 9223372036854775807) : intBin .quo .i64 (q : Int) 10 = some (.int .i64 ((q / 10 : Nat) : Int)) := by
 rw [intBin_quo _ _ _ (by omega), Int.tdiv_eq_ediv_of_nonneg (by omega), show (q : Int) / 10 = ((q / 10 : Nat) : Int) from rfl, wrap_id (by omega) (by omega)]
theorem decB_nat (m i : Nat) : IntKind.u8.wrap (48 + ((m / 10 ^ i % 10 : Nat) : Int)) = ((decB m i).toNat : Int) := by
 unfold decB
 rw [IntKind.wrap_u8, UInt8.toNat_ofNat']; omega
theorem bytesD_cons (b : UInt8) (l : List UInt8) : bytesD (b :: l) = [[.int .u8 b.toNat]] ++ bytesD l := by simp [bytesD]
theorem s_UserName_ok (r : GRole) (n : Int) (h1 : r.fName.length ≤ 1048576) (h2 : r.fPrefix.length ≤ 1048576) (hr : roleB r = true) (hn : inB n 0 1000000000 = true) : Valid PP GG 96 [.agg r.c, .d (.int .i64 n)] (.d (.str (uName r n))) [none, none] := by
 refine cv Tryz.func96 [.d (.str (uName r n))] ?_
 have c1 := s_RoleOk_ok (GG := GG) r h1 h2
 have c2 : Valid PP GG 23 [.d (.int .i64 n), .d (.int .i64 0), .d (.int .i64 1000000000)] (.d (.bool (inB n 0 1000000000))) [none, none, none] := l01In_ok _ _ _
 rw [hr] at c1
 rw [hn] at c2
 obtain ⟨h0, h9⟩ := inB_true hn
 obtain ⟨r1, r2, r3, r4⟩ := r
 have hU : uName ⟨r1, r2, r3, r4⟩ n = r2 ++ six n.toNat := rfl
 generalize uName ⟨r1, r2, r3, r4⟩ n = U at *
 obtain ⟨m, rfl⟩ : ∃ m : Nat, n = m := ⟨n.toNat, by omega⟩
 simp only [Int.toNat_natCast] at hU
 refine u_36 (Z2 c1 c2) ?_
 refine W_loop (fun k st => ∃ i : Nat, k = 6 - i ∧ i ≤ 6 ∧ st = ⟨[], [(1, .d (.int .i64 ((m / 10 ^ i : Nat) : Int))), (2, .ptr 0 0), (5, .sl 1), (6, .d (.int .i64 i))], [(0, .box [.d (.str r1), .d (.str r2), .d (.int .i64 r3), .d (.int .i64 r4)]), (1, .arr 0 0 1 (bytesD (lastN m i)))], 2⟩) _ ⟨0, rfl, by omega, ?_⟩ ?_
 ·simp [gc, closeN, liveA, gcV, gcO, renA, renAs, renO, namesAs, namesA, namesO, posn, lastN, bytesD]
 rintro k st ⟨i, rfl, hi, rfl⟩
 by_cases hlt : i < 6
 ·have hq : m / 10 ^ i ≤ m := Nat.div_le_self _ _
  have f1 := rem10 (m / 10 ^ i)
  have f2 : IntKind.i64.wrap (48 + ((m / 10 ^ i % 10 : Nat) : Int)) = 48 + ((m / 10 ^ i % 10 : Nat) : Int) := wrap_id (by omega) (by omega)
  have f3 := decB_nat m i
  have f4 := quo10 (m / 10 ^ i) (by omega)
  have f5 : m / 10 ^ i / 10 = m / 10 ^ (i + 1) := by rw [Nat.div_div_eq_div_mul, Nat.pow_succ]
  have f6 : bytesD (lastN m (i + 1)) = [[.int .u8 (decB m i).toNat]] ++ bytesD (lastN m i) := bytesD_cons _ _
  have f7 := lastN_len m i
  have f8 : IntKind.i64.wrap ((i : Int) + 1) = (i : Int) + 1 := wrap_id (by omega) (by omega)
  rw [f5] at f4
  generalize m / 10 ^ i = q at *
  generalize q % 10 = q1 at *
  repeat' (first | refine W_seq ?_ | refine W_skip ?_ | refine W_block ?_ | refine W_exit ?_ | refine pick_pos rfl ?_ | refine pick_neg rfl ?_ | ((first | refine W_regP fun K hK => ?_ | refine W_regPD fun K hK => ?_ | refine W_ret ?_); simp [Fin, f1, f2, f3, f4, f7, limit]) | (with_reducible refine hK _ ?_; clear hK K) | (with_reducible refine goL_split (fun h => ?_) (fun h => ?_) <;> first | (exfalso; simp at h; first | done | omega | contradiction) | ((try simp at h); simp [f1, f2, f3, f4, f7, limit])) | with_reducible refine And.intro ?_ ?_ | with_reducible exact okay_rfl rfl | with_reducible assumption | (refine W_cond rfl (fun h => ?_) (fun h => ?_) <;> first | (exfalso; simp at h; first | done | omega | contradiction) | (exfalso; simp_all; done) | (try simp at h)) | omega)
  refine ⟨6 - (i + 1), by omega, i + 1, rfl, hlt, ?_⟩
  rw [f6]
  simp [gc, closeN, liveA, gcV, gcO, renA, renAs, renO, namesAs, namesA, namesO, posn, f8]
 ·have hi6 : i = 6 := by omega
  subst hi6
  have hlen : (lastN m 6).length = 6 := lastN_len m 6
  rw [show six m = lastN m 6 from rfl] at hU
  have hso := strOf_bytesD (lastN m 6)
  generalize bytesD (lastN m 6) = BD at *
  generalize lastN m 6 = L at *
  subst hU
  dsimp only at h2
  repeat' (first | refine W_seq ?_ | refine W_skip ?_ | refine W_block ?_ | refine W_exit ?_ | refine pick_pos rfl ?_ | refine pick_neg rfl ?_ | ((first | refine W_regP fun K hK => ?_ | refine W_regPD fun K hK => ?_ | refine W_ret ?_); simp [Fin, hso, hlen, maxStr]) | (with_reducible refine hK _ ?_; clear hK K) | (with_reducible refine goL_split (fun h => ?_) (fun h => ?_) <;> first | (exfalso; simp at h; first | done | omega | contradiction) | ((try simp at h); simp [hso, hlen, maxStr])) | with_reducible refine And.intro ?_ ?_ | with_reducible exact okay_rfl rfl | with_reducible assumption | (refine W_cond rfl (fun h => ?_) (fun h => ?_) <;> first | (exfalso; simp at h; first | done | omega | contradiction) | (exfalso; simp_all; done) | (try simp at h)) | omega)
theorem remM (q : Nat) : intBin .rem .i64 (q : Int) 1000000 = some (.int .i64 ((q % 1000000 : Nat) : Int)) := by
 rw [intBin_rem _ _ _ (by omega), Int.tmod_eq_emod_of_nonneg (by omega)]; rfl
theorem sixDigits_ok [P10 GG] (m : Nat) (hm : m ≤ 1000000000) : Valid PP GG 167 [.d (.int .i64 m)] (.d (.str (six m))) [none] := by
 refine cv Tryz.func167 [.d (.str (six m))] ?_
 obtain ⟨h1, h2, h3⟩ := six_itoa m
 have f1 := remM m
 have c1 := Itoa_ok (GG := GG) ((m % 1000000 : Nat) : Int) (by have : m % 1000000 ≤ m := Nat.mod_le _ _; unfold int64; omega)
 generalize Lib.itoa ((m % 1000000 : Nat) : Int) = s at *
 have c2 := Repeat_ok (GG := GG) [48] (6 - s.length) (by simp; omega) (by omega)
 have f2 : IntKind.i64.wrap (6 - (s.length : Int)) = ((6 - s.length : Nat) : Int) := by rw [wrap_id (by omega) (by omega)]; omega
 have hl : (Lib.repeatL [48] (6 - s.length)).length = 6 - s.length := by rw [Lib.repeatL_length]; simp
 generalize Lib.repeatL [48] (6 - s.length) = z at *
 generalize ((6 - s.length : Nat) : Int) = q at *
 generalize ((m % 1000000 : Nat) : Int) = p at *
 rw [← h1]
 repeat' (first | refine W_seq ?_ | refine W_skip ?_ | refine W_block ?_ | refine W_exit ?_ | refine pick_pos rfl ?_ | refine pick_neg rfl ?_ | ((first | refine W_regP fun K hK => ?_ | refine W_regPD fun K hK => ?_ | refine W_ret ?_ | with_reducible refine callQ (c1) ?_ | with_reducible refine callQ (c2) ?_); simp [Fin, f1, f2, maxStr]) | (with_reducible refine hK _ ?_; clear hK K) | (with_reducible refine goL_split (fun h => ?_) (fun h => ?_) <;> first | (exfalso; simp at h; first | done | omega | contradiction) | ((try simp at h); simp [f1, f2, maxStr])) | with_reducible refine And.intro ?_ ?_ | with_reducible exact okay_rfl rfl | with_reducible assumption | (refine W_cond rfl (fun h => ?_) (fun h => ?_) <;> first | (exfalso; simp at h; first | done | omega | contradiction) | (exfalso; simp_all; done) | (try simp at h)) | omega)
theorem userName_ok [P10 GG] (r : GRole) (n : Int) (h2 : r.fPrefix.length ≤ 1048576) (h0 : 0 ≤ n) (hn : n ≤ 1000000000) : Valid PP GG 144 [.agg r.c, .d (.int .i64 n)] (.d (.str (uName r n))) [none, none] := by
 refine cv Tryz.func144 [.d (.str (uName r n))] ?_
 obtain ⟨m, rfl⟩ : ∃ m : Nat, n = m := ⟨n.toNat, by omega⟩
 have c1 := sixDigits_ok (GG := GG) m (by omega)
 have hU : uName r m = r.fPrefix ++ six m := rfl
 have hl : (six m).length = 6 := rfl
 generalize six m = s at *
 rw [hU]
 repeat' (first | refine W_seq ?_ | refine W_skip ?_ | refine W_block ?_ | refine W_exit ?_ | refine pick_pos rfl ?_ | refine pick_neg rfl ?_ | ((first | refine W_regP fun K hK => ?_ | refine W_regPD fun K hK => ?_ | refine W_ret ?_ | with_reducible refine callQ (c1) ?_); simp [Fin, maxStr]) | (with_reducible refine hK _ ?_; clear hK K) | (with_reducible refine goL_split (fun h => ?_) (fun h => ?_) <;> first | (exfalso; simp at h; first | done | omega | contradiction) | ((try simp at h); simp [maxStr])) | with_reducible refine And.intro ?_ ?_ | with_reducible exact okay_rfl rfl | with_reducible assumption | (refine W_cond rfl (fun h => ?_) (fun h => ?_) <;> first | (exfalso; simp at h; first | done | omega | contradiction) | (exfalso; simp_all; done) | (try simp at h)) | omega)
def uPass (key : Int) (name : List UInt8) : List UInt8 := Lib.itoa (digN (wide key ++ name))
theorem s_UserPass_ok (key : Int) (name : List UInt8) (hk : keyB key = true) (hn : nameOk name = true) (hl : name.length ≤ 1048576) : Valid PP GG 97 [.d (.int .i64 key), .d (.str name)] (.d (.str (uPass key name))) [none, none] := by
 refine cv Tryz.func97 [.d (.str (uPass key name))] ?_
 have c1 := l04Key_ok (GG := GG) key
 have c2 := l01Name_ok (GG := GG) name (by omega)
 rw [hk] at c1
 rw [hn] at c2
 have c3 := s_PutWide_ok (GG := GG) key hk
 have hwl := wide_len key
 have hU : uPass key name = Lib.itoa (digN (wide key ++ name)) := rfl
 generalize wide key = wk at *
 have c4 := l01Join_ok (GG := GG) wk name (by omega)
 have hib := ind_bytes (wk ++ name)
 have c5 := Digest_ok (GG := GG) (wk ++ name) (by rw [List.length_append]; omega)
 have hd : int64 (digN (wk ++ name)) := by have := digN_range (wk ++ name); unfold int64; omega
 generalize digN (wk ++ name) = q at *
 have c6 := l01Num_ok (GG := GG) q hd
 rw [hU]
 exact u_31 (Z6 c1 c2 c3 c4 c5 c6)
theorem userPass_ok [P10 GG] (key : Int) (name : List UInt8) (hk : keyB key = true) (hl : name.length ≤ 1048576) : Valid PP GG 146 [.d (.int .i64 key), .d (.str name)] (.d (.str (uPass key name))) [none, none] := by
 refine cv Tryz.func146 [.d (.str (uPass key name))] ?_
 have c3 := i_putWide_ok (GG := GG) key hk
 have hwl := wide_len key
 have hU : uPass key name = Lib.itoa (digN (wide key ++ name)) := rfl
 generalize wide key = wk at *
 have happ : bytesD (wk ++ name) = bytesD wk ++ bytesD name := by simp [bytesD]
 have c5 := digest_ok (GG := GG) (wk ++ name) (by rw [List.length_append]; omega)
 have hd : int64 (digN (wk ++ name)) := by have := digN_range (wk ++ name); unfold int64; omega
 generalize digN (wk ++ name) = q at *
 have c6 := Itoa_ok (GG := GG) q hd
 rw [hU]
 rw [happ] at c5
 exact u_60 (Z3 c3 c5 c6)
theorem lessN_split {α : Type} {key : α → List UInt8} (s : List UInt8) : ∀ {l : List α}, l.Pairwise (fun y x => Go.Op.bytesLess (key y) (key x) = true) →
  lessN key s l ≤ l.length ∧ (∀ (m : Nat) x, m < lessN key s l → l[m]? = some x → Go.Op.bytesLess (key x) s = true) ∧ (∀ (m : Nat) x, lessN key s l ≤ m → l[m]? = some x → Go.Op.bytesLess (key x) s = false) := by
 intro l
 induction l with
 | nil => intro _; exact ⟨Nat.le_refl _, fun m x h => by simp [lessN] at h, fun m x _ h => by simp at h⟩
 | cons a t ih =>
  intro h
  rw [List.pairwise_cons] at h
  obtain ⟨i1, i2, i3⟩ := ih h.2
  cases ha : Go.Op.bytesLess (key a) s with
  | true =>
   have e : lessN key s (a :: t) = lessN key s t + 1 := by simp [lessN, ha]
   rw [e]
   refine ⟨by simpa using i1, fun m x hm hx => ?_, fun m x hm hx => ?_⟩
   ·cases m with
    | zero => simp at hx; subst hx; exact ha
    | succ m => exact i2 m x (by omega) (by simpa using hx)
   ·cases m with
    | zero => omega
    | succ m => exact i3 m x (by omega) (by simpa using hx)
  | false =>
   have hall : ∀ x, x ∈ t → Go.Op.bytesLess (key x) s = false := fun x hx => by
    cases hb : Go.Op.bytesLess (key x) s with
    | false => rfl
    | true => have := bl_trans (h.1 x hx) hb; rw [ha] at this; cases this
   have e : lessN key s (a :: t) = 0 := by
    have : t.filter (fun x => Go.Op.bytesLess (key x) s) = [] := by rw [List.filter_eq_nil_iff]; intro x hx; rw [hall x hx]; simp
    simp [lessN, ha, this]
   rw [e]
   refine ⟨by omega, fun m x hm => by omega, fun m x _ hx => ?_⟩
   cases m with
   | zero => simp at hx; subst hx; exact ha
   | succ m => exact hall x (List.mem_of_getElem? (by simpa using hx))
def insAt {α : Type} (l : List α) (k : Nat) (u : α) (i : Nat) : List α := if i ≤ k then l.take i else l.take k ++ u :: (l.drop k).take (i - k)
theorem insAt_zero {α : Type} (l : List α) (k : Nat) (u : α) : insAt l k u 0 = [] := by simp [insAt]
theorem insAt_lt {α : Type} {l : List α} {k : Nat} {u x : α} {i : Nat} (h : i < k) (hx : l[i]? = some x) : insAt l k u (i + 1) = insAt l k u i ++ [x] := by
 unfold insAt
 rw [if_pos (by omega), if_pos (by omega), List.take_add_one, hx]; rfl
theorem insAt_eq {α : Type} {l : List α} {k : Nat} {u x : α} (hx : l[k]? = some x) : insAt l k u (k + 1) = insAt l k u k ++ [u] ++ [x] := by
 unfold insAt
 rw [if_neg (by omega), if_pos (by omega), show k + 1 - k = 1 by omega, List.take_one, List.head?_drop, hx]
 simp
theorem insAt_gt {α : Type} {l : List α} {k : Nat} {u x : α} {i : Nat} (h : k < i) (hx : l[i]? = some x) : insAt l k u (i + 1) = insAt l k u i ++ [x] := by
 unfold insAt
 rw [if_neg (by omega), if_neg (by omega), show i + 1 - k = (i - k) + 1 by omega, List.take_add_one, List.getElem?_drop, show k + (i - k) = i by omega, hx]
 simp
theorem insAt_all {α : Type} {l : List α} {k : Nat} {u : α} (h : k < l.length) : insAt l k u l.length = l.take k ++ u :: l.drop k := by
 unfold insAt
 rw [if_neg (by omega)]
 rw [show (l.drop k).take (l.length - k) = l.drop k from List.take_of_length_le (by rw [List.length_drop]; omega)]
theorem insAt_end {α : Type} {l : List α} {k : Nat} {u : α} (h : k = l.length) : insAt l k u l.length ++ [u] = l.take k ++ u :: l.drop k := by
 unfold insAt
 subst h
 rw [if_pos (Nat.le_refl _)]
 simp
theorem insAt_len {α : Type} (l : List α) (k : Nat) (u : α) (i : Nat) : (insAt l k u i).length ≤ l.length + 1 := by
 unfold insAt
 split
 ·simp; omega
 ·simp; omega
theorem s_l11At_ok (a : List GUser) (ff fm : Int) (s : List UInt8) (hl : a.length ≤ 1048576) : Valid PP GG 98 [.agg (GFar.mk a ff fm).c, .d (.str s)] (.d (.int .i64 (idxF (fun u => u.fName == s) a))) [none, none] := by
 refine cv Tryz.func98 [.d (.int .i64 (idxF (fun u => u.fName == s) a))] ?_
 refine u_28 ?_
 refine W_loop (fun n st => ∃ i : Nat, n = a.length - i ∧ i ≤ a.length ∧ (∀ x, x ∈ a.take i → (x.fName == s) = false) ∧ st = ⟨[], [(1, .d (.str s)), (2, .ptr 0 0), (5, .d (.int .i64 i))], [(0, .box [.d (.slc 2 (rUser a)), .d (.int .i64 ff), .d (.int .i64 fm)])], 1⟩) _ ⟨0, rfl, by omega, by simp, ?_⟩ ?_
 ·exact u_22
 rintro n st ⟨i, rfl, hi, hn, rfl⟩
 by_cases hlt : i < a.length
 ·have ha := List.getElem?_eq_getElem hlt
  generalize a[i] = x at ha
  cases hx : (x.fName == s) with
  | true =>
   rw [idxF_hit ha hn hx]
   exact u_20 (Y2 ha hx)
  | false =>
   refine u_21 (Y2 ha hx) ?_
   refine ⟨a.length - (i + 1), by omega, i + 1, rfl, hlt, fun y hy => ?_, ?_⟩
   ·rw [List.take_add_one, ha, List.mem_append] at hy
    rcases hy with h | h
    ·exact hn y h
    ·simp at h; subst h; exact hx
   ·refine u_25 ?_
    exact wrap_id (by omega) (by omega)
 ·have hie : i = a.length := by omega
  subst hie
  rw [List.take_length] at hn
  rw [idxF_miss hn]
  exact u_27
def zUser : GUser := ⟨[], []⟩
def muC (f : GFar) (r : GRole) (key : Int) : Int := if (roleB r && keyB key && !decide (f.fMade = 1000000000)) = false then 1 else if 0 < f.fFail then 2 else if (f.fUsers.any fun u => u.fName == uName r (f.fMade + 1)) = true then 3 else if f.fUsers.length = 120 then 4 else 0
def muN (f : GFar) (r : GRole) (key : Int) : GUser := ⟨uName r (f.fMade + 1), uPass key (uName r (f.fMade + 1))⟩
def muU (f : GFar) (r : GRole) (key : Int) : GUser := if muC f r key = 0 then muN f r key else zUser
def putUs (l : List GUser) (u : GUser) : List GUser := l.take (lessN GUser.fName u.fName l) ++ u :: l.drop (lessN GUser.fName u.fName l)
def muF (f : GFar) (r : GRole) (key : Int) : GFar :=
 if muC f r key = 2 then { f with fFail := f.fFail - 1 } else if muC f r key = 3 then { f with fMade := f.fMade + 1 } else if muC f r key = 0 then ⟨putUs f.fUsers (muN f r key), f.fFail, f.fMade + 1⟩ else f
theorem decB_name (m i : Nat) : nameB (decB m i) = true := by
 unfold nameB decB
 have h : (UInt8.ofNat (48 + m / 10 ^ i % 10)).toNat = 48 + m / 10 ^ i % 10 := by rw [UInt8.toNat_ofNat']; omega
 rw [h, decide_eq_true_iff]
 omega
theorem uName_ok {r : GRole} (h : roleB r = true) (n : Int) : nameOk (uName r n) = true ∧ (uName r n).length ≤ 12 := by
 unfold roleB at h
 simp only [Bool.and_eq_true, decide_eq_true_eq] at h
 obtain ⟨⟨⟨⟨-, hp⟩, hl⟩, -⟩, -⟩ := h
 unfold nameOk at hp ⊢
 simp only [Bool.and_eq_true, decide_eq_true_eq] at hp ⊢
 have hlen : (uName r n).length = r.fPrefix.length + 6 := by simp [uName, six]
 refine ⟨⟨by omega, ?_⟩, by omega⟩
 unfold uName six
 rw [List.all_append, hp.2]
 simp [decB_name]
theorem s_MakeUser_ok [MaxL GG] (f : GFar) (r : GRole) (key : Int) (hf : fitFar f) (hb : farB f = true) (h1 : r.fName.length ≤ 1048576) (h2 : r.fPrefix.length ≤ 1048576) :
  Valid PP GG 48 [.agg f.c, .agg r.c, .d (.int .i64 key)] (.tup [.agg (muF f r key).o, .agg (muU f r key).o, .d (.int .i64 (muC f r key))]) [none, none, none] := by
 refine cv Tryz.func48 [.agg (muF f r key).o, .agg (muU f r key).o, .d (.int .i64 (muC f r key))] ?_
 obtain ⟨q1, q2, q3, q4, q5⟩ := (far_iff f).1 hb
 have cfo := s_FarOk_ok (GG := GG) f hf
 rw [hb] at cfo
 have cro := s_RoleOk_ok (GG := GG) r h1 h2
 have cke := l04Key_ok (GG := GG) key
 have hun := fun h => uName_ok (r := r) h (f.fMade + 1)
 have cat := fun s => s_l11At_ok (GG := GG) f.fUsers f.fFail f.fMade s hf.1
 have hsp := lessN_split (key := GUser.fName) (uName r (f.fMade + 1)) q5
 have cun := fun h h' => s_UserName_ok (GG := GG) r (f.fMade + 1) h1 h2 h h'
 have cup := fun h h' h'' => s_UserPass_ok (GG := GG) key (uName r (f.fMade + 1)) h h' h''
 have hC : muC f r key = if (roleB r && keyB key && !decide (f.fMade = 1000000000)) = false then 1 else if 0 < f.fFail then 2 else if (f.fUsers.any fun u => u.fName == uName r (f.fMade + 1)) = true then 3 else if f.fUsers.length = 120 then 4 else 0 := rfl
 have hN : muN f r key = ⟨uName r (f.fMade + 1), uPass key (uName r (f.fMade + 1))⟩ := rfl
 have hU : muU f r key = if muC f r key = 0 then muN f r key else zUser := rfl
 have hF : muF f r key = if muC f r key = 2 then { f with fFail := f.fFail - 1 } else if muC f r key = 3 then { f with fMade := f.fMade + 1 } else if muC f r key = 0 then ⟨putUs f.fUsers (muN f r key), f.fFail, f.fMade + 1⟩ else f := rfl
 have hP : putUs f.fUsers (muN f r key) = f.fUsers.take (lessN GUser.fName (uName r (f.fMade + 1)) f.fUsers) ++ muN f r key :: f.fUsers.drop (lessN GUser.fName (uName r (f.fMade + 1)) f.fUsers) := rfl
 generalize muF f r key = F at *
 generalize muU f r key = U at *
 generalize muC f r key = CC at *
 generalize muN f r key = NN at *
 generalize uName r (f.fMade + 1) = nm at *
 generalize uPass key nm = pw at *
 obtain ⟨us, ff, fm⟩ := f
 have ccp := s_l11Copy_ok (GG := GG) us ff fm (by have := hf.1; dsimp only at this; omega)
 have hff := inB_true q2
 have hfm := inB_true q3
 dsimp only at *
 have hnm := fun h => (hun h).1
 have hnl := fun h => (hun h).2
 generalize putUs us NN = PU at *
 generalize hk : lessN GUser.fName nm us = k at *
 generalize roleB r = R at *
 generalize keyB key = KB at *
 have hi3 := ind_rUser us
 obtain ⟨r1, r2, r3, r4⟩ := r
 cases R
 ·simp only [Bool.false_and, if_true] at hC
  subst hC
  simp only [Int.reduceEq, if_false] at hU hF
  subst hU hF
  exact u_69 (Z3 cfo cro ccp)
 cases KB
 ·simp only [Bool.and_false, Bool.false_and, if_true] at hC
  subst hC
  simp only [Int.reduceEq, if_false] at hU hF
  subst hU hF
  exact u_69 (Z4 cfo cro ccp cke)
 by_cases hmx : fm = 1000000000
 ·rw [decide_eq_true hmx] at hC
  simp only [Bool.not_true, Bool.and_false, if_true] at hC
  subst hC
  simp only [Int.reduceEq, if_false] at hU hF
  subst hU hF hmx
  exact u_69 (Z4 cfo cro ccp cke)
 rw [decide_eq_false hmx] at hC
 simp only [Bool.not_false, Bool.and_self, Bool.true_eq_false, if_false] at hC
 have hmx2 : (fm == 1000000000) = false := by simpa using hmx
 by_cases hfp : 0 < ff
 ·rw [if_pos hfp] at hC
  subst hC
  simp only [Int.reduceEq, if_false, if_true] at hU hF
  subst hU hF
  have hw : IntKind.i64.wrap (ff - 1) = ff - 1 := wrap_id (by omega) (by omega)
  exact u_70 (Y2 hmx2 hw) (Z4 cfo cro ccp cke)
 rw [if_neg hfp] at hC
 have cun := cun rfl (by unfold inB; simp; omega)
 have cup := cup rfl (hnm rfl) (by have := hnl rfl; omega)
 have cat := cat nm
 have hw1 : IntKind.i64.wrap (fm + 1) = fm + 1 := wrap_id (by omega) (by omega)
 have hany := idxF_any (fun u : GUser => u.fName == nm) us
 have hge : ∀ z : Int, (z ≥ 0) = (0 ≤ z) := fun z => rfl
 generalize idxF (fun u : GUser => u.fName == nm) us = ix at *
 by_cases hex : (us.any fun u => u.fName == nm) = true
 ·rw [if_pos hex] at hC
  rw [hex] at hany
  subst hC
  simp only [Int.reduceEq, if_false, if_true] at hU hF
  subst hU hF
  exact u_70 (Y3 hmx2 hw1 hany) (Z7 cfo cro ccp cke cun cup cat)
 rw [if_neg hex] at hC
 have hex2 : (us.any fun u => u.fName == nm) = false := by simpa using hex
 rw [hex2] at hany
 by_cases hfull : us.length = 120
 ·rw [if_pos hfull] at hC
  subst hC
  simp only [Int.reduceEq, if_false, if_true] at hU hF
  subst hU hF
  exact u_70 (Y4 hmx2 hw1 hany hfull) (Z7 cfo cro ccp cke cun cup cat)
 rw [if_neg hfull] at hC
 subst hC
 simp only [Int.reduceEq, if_false, if_true] at hU hF
 subst hU hF
 repeat' (first | refine W_seq ?_ | refine W_skip ?_ | refine W_block ?_ | refine W_exit ?_ | refine pick_pos rfl ?_ | refine pick_neg rfl ?_ | ((first | refine W_regP fun K hK => ?_ | refine W_regPD fun K hK => ?_ | refine W_ret ?_ | with_reducible refine callQ (cfo) ?_ | with_reducible refine callQ (cro) ?_ | with_reducible refine callQ (ccp) ?_ | with_reducible refine callQ (cke) ?_ | with_reducible refine callQ (cun) ?_ | with_reducible refine callQ (cup) ?_ | with_reducible refine callQ (cat) ?_); simp [Fin, zUser, hmx2, hw1, hany]) | (with_reducible refine hK _ ?_; clear hK K) | (with_reducible refine goL_split (fun h => ?_) (fun h => ?_) <;> first | (exfalso; simp at h; first | done | omega | contradiction) | ((try simp at h); simp [zUser, hmx2, hw1, hany])) | with_reducible refine And.intro ?_ ?_ | with_reducible exact okay_rfl rfl | with_reducible assumption | (refine W_cond rfl (fun h => ?_) (fun h => ?_) <;> first | (exfalso; simp at h; first | done | omega | contradiction) | (exfalso; simp_all; done) | (try simp at h)) | omega)
 subst hN
 obtain ⟨hs1, hs2, hs3⟩ := hsp
 have hx1 : ∀ m x, m < k → us[m]? = some x → Go.Op.bytesLess nm x.fName = false := fun m x h h' => bl_asymm (hs2 m x h h')
 have hx2 : ∀ m x, k ≤ m → us[m]? = some x → Go.Op.bytesLess nm x.fName = true := fun m x h h' => by
  have hne : x.fName ≠ nm := fun e => by
   rw [List.any_eq_false] at hex2
   exact hex2 x (List.mem_of_getElem? h') (by simpa using e)
  rcases bl_total hne with h2 | h2
  ·rw [hs3 m x h h'] at h2; cases h2
  ·exact h2
 clear cfo cro cke cun cup cat hun hnm hnl hs2 hs3 hany hex2 hex
 have hl120 : us.length ≤ 120 := q1
 refine W_nilP 9 0 rfl rfl rfl ?_
 refine W_loop (fun n st => ∃ i : Nat, n = us.length - i ∧ i ≤ us.length ∧
  st = ⟨[], [(3, .ptr 0 0), (6, .ptr 1 0), (7, .ptr 2 0), (9, .ptr 3 0), (11, .ptr 4 0), (12, .d (.bool (decide (k < i)))), (13, .d (.int .i64 i))],
   [(0, .box [.d (.slc 2 (rUser us)), .d (.int .i64 ff), .d (.int .i64 fm)]), (1, .box [.nil 0 2, .d (.int .i64 0), .d (.int .i64 0)]), (2, .box [.d (.str []), .d (.str [])]), (3, .box [.sl 5, .d (.int .i64 ff), .d (.int .i64 (fm + 1))]), (4, .box [.d (.str nm), .d (.str pw)]), (5, .arr 0 0 2 (rUser (insAt us k ⟨nm, pw⟩ i)))], 6⟩) _ ⟨0, rfl, by omega, ?_⟩ ?_
 ·simp [gc, closeN, liveA, gcV, gcO, renA, renAs, renO, namesAs, namesA, namesO, posn, insAt_zero, rUser]
 rintro n st ⟨i, rfl, hi, rfl⟩
 have hlen := insAt_len us k ⟨nm, pw⟩ i
 have hil := ind_rUser (insAt us k ⟨nm, pw⟩ i)
 by_cases hlt : i < us.length
 ·have ha := List.getElem?_eq_getElem hlt
  generalize us[i] = x at ha
  have hw : IntKind.i64.wrap ((i : Int) + 1) = (i : Int) + 1 := wrap_id (by omega) (by omega)
  rcases Nat.lt_trichotomy i k with hik | hik | hik
  ·have e1 : rUser (insAt us k ⟨nm, pw⟩ (i + 1)) = rUser (insAt us k ⟨nm, pw⟩ i) ++ [x.row] := by rw [insAt_lt hik ha, rUser_app]; rfl
   have hb := hx1 i x hik ha
   have hll := rUser_len (insAt us k ⟨nm, pw⟩ i)
   generalize rUser (insAt us k ⟨nm, pw⟩ i) = L at *
   rw [decide_eq_false (by omega : ¬ k < i)]
   refine u_58 (Y2 ha hb) ?_
   refine ⟨us.length - (i + 1), by omega, i + 1, rfl, hlt, ?_⟩
   rw [e1, decide_eq_false (by omega : ¬ k < i + 1)]
   exact u_32 hw
  ·subst hik
   have e1 : rUser (insAt us i ⟨nm, pw⟩ (i + 1)) = rUser (insAt us i ⟨nm, pw⟩ i) ++ [[.str nm, .str pw]] ++ [x.row] := by rw [insAt_eq ha, rUser_app, rUser_app]; rfl
   have hb := hx2 i x (Nat.le_refl _) ha
   have hll := rUser_len (insAt us i ⟨nm, pw⟩ i)
   generalize rUser (insAt us i ⟨nm, pw⟩ i) = L at *
   rw [decide_eq_false (by omega : ¬ i < i)]
   refine u_58 (Y2 ha hb) ?_
   refine ⟨us.length - (i + 1), by omega, i + 1, rfl, hlt, ?_⟩
   rw [e1, decide_eq_true (by omega : i < i + 1)]
   exact u_32 hw
  ·have e1 : rUser (insAt us k ⟨nm, pw⟩ (i + 1)) = rUser (insAt us k ⟨nm, pw⟩ i) ++ [x.row] := by rw [insAt_gt hik ha, rUser_app]; rfl
   have hll := rUser_len (insAt us k ⟨nm, pw⟩ i)
   generalize rUser (insAt us k ⟨nm, pw⟩ i) = L at *
   rw [decide_eq_true (by omega : k < i)]
   refine u_58 ha ?_
   refine ⟨us.length - (i + 1), by omega, i + 1, rfl, hlt, ?_⟩
   rw [e1, decide_eq_true (by omega : k < i + 1)]
   exact u_32 hw
 ·have hie : i = us.length := by omega
  subst hie
  have hiP := ind_rUser PU
  by_cases hkl : k < us.length
  ·have e1 : insAt us k ⟨nm, pw⟩ us.length = PU := by rw [insAt_all hkl, hP]
   rw [decide_eq_true hkl]
   rw [e1] at hlen ⊢
   exact u_27
  ·have e1 : rUser (insAt us k ⟨nm, pw⟩ us.length) ++ [[.str nm, .str pw]] = rUser PU := by
    have h := congrArg rUser (insAt_end (l := us) (k := k) (u := (⟨nm, pw⟩ : GUser)) (by omega))
    rw [rUser_app, ← hP] at h
    exact h
   have hll := rUser_len (insAt us k ⟨nm, pw⟩ us.length)
   generalize rUser (insAt us k ⟨nm, pw⟩ us.length) = L at *
   rw [decide_eq_false hkl]
   rw [← e1] at hiP
   exact u_57 e1
theorem makeUser_ok [MaxL GG] [P10 GG] (f : GFar) (r : GRole) (key : Int) (hf : fitFar f) (hb : farB f = true) (h1 : r.fName.length ≤ 1048576) (h2 : r.fPrefix.length ≤ 1048576) :
  Valid PP GG 101 [.agg f.c, .agg r.c, .d (.int .i64 key)] (.tup [.agg (muF f r key).o, .agg (muU f r key).o, .d (.int .i64 (muC f r key))]) [none, none, none] := by
 refine cv Tryz.func101 [.agg (muF f r key).o, .agg (muU f r key).o, .d (.int .i64 (muC f r key))] ?_
 obtain ⟨q1, q2, q3, q4, q5⟩ := (far_iff f).1 hb
 have hff := inB_true q2
 have hfm := inB_true q3
 have cro := isRole_ok (GG := GG) r h1 h2
 have cke := isKey_ok (GG := GG) key
 have hun := fun h => uName_ok (r := r) h (f.fMade + 1)
 have cui := userIndex_ok (GG := GG) f (uName r (f.fMade + 1)) hf.1 hb
 have hsp := (lessN_split (key := GUser.fName) (uName r (f.fMade + 1)) q5).1
 have cun := userName_ok (GG := GG) r (f.fMade + 1) h2 (by omega)
 have cup := fun h h' => userPass_ok (GG := GG) key (uName r (f.fMade + 1)) h h'
 have cin := InsertUser_ok (GG := GG) f.fUsers (muN f r key) (lessN GUser.fName (uName r (f.fMade + 1)) f.fUsers) hsp hf.1
 have hC : muC f r key = if (roleB r && keyB key && !decide (f.fMade = 1000000000)) = false then 1 else if 0 < f.fFail then 2 else if (f.fUsers.any fun u => u.fName == uName r (f.fMade + 1)) = true then 3 else if f.fUsers.length = 120 then 4 else 0 := rfl
 have hN : muN f r key = ⟨uName r (f.fMade + 1), uPass key (uName r (f.fMade + 1))⟩ := rfl
 have hU : muU f r key = if muC f r key = 0 then muN f r key else zUser := rfl
 have hF : muF f r key = if muC f r key = 2 then { f with fFail := f.fFail - 1 } else if muC f r key = 3 then { f with fMade := f.fMade + 1 } else if muC f r key = 0 then ⟨putUs f.fUsers (muN f r key), f.fFail, f.fMade + 1⟩ else f := rfl
 have hP : f.fUsers.take (lessN GUser.fName (uName r (f.fMade + 1)) f.fUsers) ++ muN f r key :: f.fUsers.drop (lessN GUser.fName (uName r (f.fMade + 1)) f.fUsers) = putUs f.fUsers (muN f r key) := rfl
 rw [hP] at cin
 clear hP hsp
 generalize muF f r key = F at *
 generalize muU f r key = U at *
 generalize muC f r key = CC at *
 generalize muN f r key = NN at *
 generalize uName r (f.fMade + 1) = nm at *
 generalize uPass key nm = pw at *
 obtain ⟨us, ff, fm⟩ := f
 have ccp := cloneFar_ok (GG := GG) us ff fm (by have := hf.1; dsimp only at this; omega)
 dsimp only at *
 have hnl := fun h => (hun h).2
 generalize putUs us NN = PU at *
 generalize lessN GUser.fName nm us = k at *
 generalize roleB r = R at *
 generalize keyB key = KB at *
 have hi3 := ind_rUser us
 have hi4 := ind_rUser PU
 obtain ⟨r1, r2, r3, r4⟩ := r
 cases R
 ·simp only [Bool.false_and, if_true] at hC
  subst hC
  simp only [Int.reduceEq, if_false] at hU hF
  subst hU hF
  exact u_69 (Z2 cro ccp)
 cases KB
 ·simp only [Bool.and_false, Bool.false_and, if_true] at hC
  subst hC
  simp only [Int.reduceEq, if_false] at hU hF
  subst hU hF
  exact u_69 (Z3 cro ccp cke)
 by_cases hmx : fm = 1000000000
 ·rw [decide_eq_true hmx] at hC
  simp only [Bool.not_true, Bool.and_false, if_true] at hC
  subst hC
  simp only [Int.reduceEq, if_false] at hU hF
  subst hU hF hmx
  exact u_69 (Z3 cro ccp cke)
 rw [decide_eq_false hmx] at hC
 simp only [Bool.not_false, Bool.and_self, Bool.true_eq_false, if_false] at hC
 have hmx2 : (fm == 1000000000) = false := by simpa using hmx
 by_cases hfp : 0 < ff
 ·rw [if_pos hfp] at hC
  subst hC
  simp only [Int.reduceEq, if_false, if_true] at hU hF
  subst hU hF
  have hw : IntKind.i64.wrap (ff - 1) = ff - 1 := wrap_id (by omega) (by omega)
  exact u_70 (Y2 hmx2 hw) (Z3 cro ccp cke)
 rw [if_neg hfp] at hC
 have cun := cun (by omega)
 have cup := cup rfl (by have := hnl rfl; omega)
 have hw1 : IntKind.i64.wrap (fm + 1) = fm + 1 := wrap_id (by omega) (by omega)
 by_cases hex : (us.any fun u => u.fName == nm) = true
 ·rw [if_pos hex] at hC
  rw [hex] at cui
  subst hC
  simp only [Int.reduceEq, if_false, if_true] at hU hF
  subst hU hF
  exact u_70 (Y2 hmx2 hw1) (Z5 cro ccp cke cun cui)
 rw [if_neg hex] at hC
 have hex2 : (us.any fun u => u.fName == nm) = false := by simpa using hex
 rw [hex2] at cui
 by_cases hfull : us.length = 120
 ·rw [if_pos hfull] at hC
  subst hC
  simp only [Int.reduceEq, if_false, if_true] at hU hF
  subst hU hF
  exact u_70 (Y3 hmx2 hw1 hfull) (Z5 cro ccp cke cun cui)
 rw [if_neg hfull] at hC
 subst hC
 simp only [Int.reduceEq, if_false, if_true] at hU hF
 subst hU hF hN
 have hfull2 : ((us.length : Int) == 120) = false := by simp; omega
 exact u_70 (Y3 hmx2 hw1 hfull2) (Z7 cro ccp cke cun cui cup cin)
def guOk (w : GWorld) (tok : Int) (r : GRole) (key : Int) (path : List UInt8) : Bool := roleB r && keyB key && grantB w tok path r.fTtl r.fLimit && !decide (w.fFar.fMade = 1000000000)
def guC (w : GWorld) (tok : Int) (r : GRole) (key : Int) (path : List UInt8) : Int := if guOk w tok r key path = false then 1 else if muC w.fFar r key = 0 then 0 else 2
def guU (w : GWorld) (tok : Int) (r : GRole) (key : Int) (path : List UInt8) : GUser := if guC w tok r key path = 0 then muU w.fFar r key else zUser
def guI (w : GWorld) (tok : Int) (r : GRole) (key : Int) (path : List UInt8) : Int := if guC w tok r key path = 0 then w.fNext else 0
def guW (w : GWorld) (tok : Int) (r : GRole) (key : Int) (path : List UInt8) : GWorld :=
 if guC w tok r key path = 1 then w else if guC w tok r key path = 2 then { w with fFar := muF w.fFar r key } else { grantW w tok path r.fTtl r.fLimit with fFar := muF w.fFar r key, fOwned := w.fOwned ++ [⟨w.fNext, (muU w.fFar r key).fName⟩] }
theorem world_far {w : GWorld} (h : worldB w = true) : farB w.fFar = true := by
 unfold worldB at h; simp only [Bool.and_eq_true] at h; exact h.1.1.1.1.2
theorem grant_is {w : GWorld} {tok : Int} {path : List UInt8} {ttl limit : Int} : (grantB w tok path ttl limit = false ∧ grantI w tok path ttl limit = 0 ∧ grantW w tok path ttl limit = w) ∨
  (worldB w = true ∧ grantB w tok path ttl limit = true ∧ grantI w tok path ttl limit = w.fNext ∧ 1 ≤ w.fNext ∧ grantW w tok path ttl limit = { w with fBook := ⟨w.fBook.fLeases ++ [newL w tok path ttl limit]⟩, fNext := w.fNext + 1 }) := by
 cases h : grantB w tok path ttl limit with
 | false => exact .inl ⟨rfl, by unfold grantI; rw [h]; rfl, by unfold grantW; rw [h]; rfl⟩
 | true =>
  have hw : worldB w = true := by unfold grantB at h; simp only [Bool.and_eq_true] at h; exact h.1.1
  exact .inr ⟨hw, rfl, by unfold grantI; rw [h]; rfl, (world_nums hw).2.1.1, by unfold grantW; rw [h]; rfl⟩
theorem s_GrantUser_ok [MaxL GG] (w : GWorld) (tok : Int) (r : GRole) (key : Int) (path : List UInt8) (hf : fitW w) (hp : path.length ≤ 1048576) (h1 : r.fName.length ≤ 1048576) (h2 : r.fPrefix.length ≤ 1048576) :
  Valid PP GG 12 [.agg w.c, .d (.int .i64 tok), .agg r.c, .d (.int .i64 key), .d (.str path)] (.tup [.agg (guW w tok r key path).o, .agg (guU w tok r key path).o, .d (.int .i64 (guI w tok r key path)), .d (.int .i64 (guC w tok r key path))]) [none, none, none, none, none] := by
 refine cv Tryz.func12 [.agg (guW w tok r key path).o, .agg (guU w tok r key path).o, .d (.int .i64 (guI w tok r key path)), .d (.int .i64 (guC w tok r key path))] ?_
 have cro := s_RoleOk_ok (GG := GG) r h1 h2
 have cke := l04Key_ok (GG := GG) key
 have ccp := s_l16Copy_ok (GG := GG) w hf
 have cgl := s_GrantLease_ok (GG := GG) w tok path r.fTtl r.fLimit hf hp
 have cmu := fun h => s_MakeUser_ok (GG := GG) w.fFar r key hf.2.2.1 h h1 h2
 have hK : guOk w tok r key path = (roleB r && keyB key && grantB w tok path r.fTtl r.fLimit && !decide (w.fFar.fMade = 1000000000)) := rfl
 have hC : guC w tok r key path = if guOk w tok r key path = false then 1 else if muC w.fFar r key = 0 then 0 else 2 := rfl
 have hU : guU w tok r key path = if guC w tok r key path = 0 then muU w.fFar r key else zUser := rfl
 have hI : guI w tok r key path = if guC w tok r key path = 0 then w.fNext else 0 := rfl
 have hW : guW w tok r key path = if guC w tok r key path = 1 then w else if guC w tok r key path = 2 then { w with fFar := muF w.fFar r key } else { grantW w tok path r.fTtl r.fLimit with fFar := muF w.fFar r key, fOwned := w.fOwned ++ [⟨w.fNext, (muU w.fFar r key).fName⟩] } := rfl
 have hol := hf.2.2.2.2.1
 have hgi := grant_is (w := w) (tok := tok) (path := path) (ttl := r.fTtl) (limit := r.fLimit)
 have hfa := fun h => world_far (w := w) h
 generalize guW w tok r key path = W at *
 generalize guU w tok r key path = U at *
 generalize guI w tok r key path = I at *
 generalize guC w tok r key path = CC at *
 generalize guOk w tok r key path = OK at *
 generalize muF w.fFar r key = F at *
 generalize muU w.fFar r key = MU at *
 generalize muC w.fFar r key = MC at *
 generalize newL w tok path r.fTtl r.fLimit = NL at *
 generalize grantW w tok path r.fTtl r.fLimit = GW at *
 generalize grantI w tok path r.fTtl r.fLimit = GI at *
 generalize grantB w tok path r.fTtl r.fLimit = GB at *
 obtain ⟨now, next, lost, ⟨tk⟩, ⟨ls⟩, ⟨us, ff, fm⟩, ⟨js⟩, ow⟩ := w
 obtain ⟨r1, r2, r3, r4⟩ := r
 generalize roleB ⟨r1, r2, r3, r4⟩ = R at *
 generalize keyB key = KB at *
 dsimp only at *
 have hi1 := ind_rToken tk
 have hi2 := ind_rLease ls
 have hi3 := ind_rUser us
 have hi4 := ind_rJob js
 have hi5 := ind_rOwned ow
 cases R
 ·simp only [Bool.false_and] at hK
  subst hK
  simp only [if_true] at hC
  subst hC
  simp only [Int.reduceEq, if_false, if_true] at hU hI hW
  subst hU hI hW
  exact u_69 (Z2 cro ccp)
 cases KB
 ·simp only [Bool.and_false, Bool.false_and] at hK
  subst hK
  simp only [if_true] at hC
  subst hC
  simp only [Int.reduceEq, if_false, if_true] at hU hI hW
  subst hU hI hW
  exact u_69 (Z3 cro cke ccp)
 rcases hgi with ⟨rfl, rfl, rfl⟩ | ⟨hwb, rfl, e1, hnx, rfl⟩
 ·simp only [Bool.and_false, Bool.false_and] at hK
  subst hK
  simp only [if_true] at hC
  subst hC
  simp only [Int.reduceEq, if_false, if_true] at hU hI hW
  subst hU hI hW
  exact u_69 (Z4 cro cke ccp cgl)
 rw [e1] at cgl
 clear e1
 have hnz : (next == 0) = false := by simp; omega
 have cmu := cmu (hfa hwb)
 by_cases hmx : fm = 1000000000
 ·rw [decide_eq_true hmx] at hK
  simp only [Bool.not_true, Bool.and_false] at hK
  subst hK
  simp only [if_true] at hC
  subst hC
  simp only [Int.reduceEq, if_false, if_true] at hU hI hW
  subst hU hI hW hmx
  have hi6 := ind_rLease (ls ++ [NL])
  exact u_70 hnz (Z4 cro cke ccp cgl)
 have hmx2 : (fm == 1000000000) = false := by simpa using hmx
 rw [decide_eq_false hmx] at hK
 simp only [Bool.not_false, Bool.and_self] at hK
 subst hK
 simp only [Bool.true_eq_false, if_false] at hC
 have hi6 := ind_rLease (ls ++ [NL])
 obtain ⟨fu, f1, f2⟩ := F
 have hi7 := ind_rUser fu
 obtain ⟨mn, mp⟩ := MU
 by_cases hmc : MC = 0
 ·rw [if_pos hmc] at hC
  subst hC hmc
  simp only [Int.reduceEq, if_false, if_true] at hU hI hW
  subst hU hW
  rw [hI]
  clear hI
  have hrl := rOwned_len ow
  refine u_55 (Y2 hnz hmx2) (Z5 cro cke ccp cgl cmu) ?_
  rw [rOwned_app]; rfl
 ·rw [if_neg hmc] at hC
  subst hC
  simp only [Int.reduceEq, if_false, if_true] at hU hI hW
  subst hU hI hW
  have hmc2 : (MC == 0) = false := by simpa using hmc
  exact u_70 (Y3 hnz hmx2 hmc2) (Z5 cro cke ccp cgl cmu)
theorem grantUser_ok [MaxL GG] [P10 GG] (w : GWorld) (tok : Int) (r : GRole) (key : Int) (path : List UInt8) (hf : fitW w) (hwb : worldB w = true) (hp : path.length ≤ 1048576) (h1 : r.fName.length ≤ 1048576) (h2 : r.fPrefix.length ≤ 1048576) :
  Valid PP GG 49 [.agg w.c, .d (.int .i64 tok), .agg r.c, .d (.int .i64 key), .d (.str path)] (.tup [.agg (guW w tok r key path).o, .agg (guU w tok r key path).o, .d (.int .i64 (guI w tok r key path)), .d (.int .i64 (guC w tok r key path))]) [none, none, none, none, none] := by
 refine cv Tryz.func49 [.agg (guW w tok r key path).o, .agg (guU w tok r key path).o, .d (.int .i64 (guI w tok r key path)), .d (.int .i64 (guC w tok r key path))] ?_
 have cro := isRole_ok (GG := GG) r h1 h2
 have cke := isKey_ok (GG := GG) key
 have ccp := cloneWorld_ok (GG := GG) w hf
 have cgl := grantLease_ok (GG := GG) w tok path r.fTtl r.fLimit hf hp hwb
 have cmu := makeUser_ok (GG := GG) w.fFar r key hf.2.2.1 (world_far hwb) h1 h2
 have hK : guOk w tok r key path = (roleB r && keyB key && grantB w tok path r.fTtl r.fLimit && !decide (w.fFar.fMade = 1000000000)) := rfl
 have hC : guC w tok r key path = if guOk w tok r key path = false then 1 else if muC w.fFar r key = 0 then 0 else 2 := rfl
 have hU : guU w tok r key path = if guC w tok r key path = 0 then muU w.fFar r key else zUser := rfl
 have hI : guI w tok r key path = if guC w tok r key path = 0 then w.fNext else 0 := rfl
 have hW : guW w tok r key path = if guC w tok r key path = 1 then w else if guC w tok r key path = 2 then { w with fFar := muF w.fFar r key } else { grantW w tok path r.fTtl r.fLimit with fFar := muF w.fFar r key, fOwned := w.fOwned ++ [⟨w.fNext, (muU w.fFar r key).fName⟩] } := rfl
 have hol := hf.2.2.2.2.1
 have hgi := grant_is (w := w) (tok := tok) (path := path) (ttl := r.fTtl) (limit := r.fLimit)
 generalize guW w tok r key path = W at *
 generalize guU w tok r key path = U at *
 generalize guI w tok r key path = I at *
 generalize guC w tok r key path = CC at *
 generalize guOk w tok r key path = OK at *
 generalize muF w.fFar r key = F at *
 generalize muU w.fFar r key = MU at *
 generalize muC w.fFar r key = MC at *
 generalize newL w tok path r.fTtl r.fLimit = NL at *
 generalize grantW w tok path r.fTtl r.fLimit = GW at *
 generalize grantI w tok path r.fTtl r.fLimit = GI at *
 generalize grantB w tok path r.fTtl r.fLimit = GB at *
 obtain ⟨now, next, lost, ⟨tk⟩, ⟨ls⟩, ⟨us, ff, fm⟩, ⟨js⟩, ow⟩ := w
 obtain ⟨r1, r2, r3, r4⟩ := r
 generalize roleB ⟨r1, r2, r3, r4⟩ = R at *
 generalize keyB key = KB at *
 dsimp only at *
 have hi1 := ind_rToken tk
 have hi2 := ind_rLease ls
 have hi3 := ind_rUser us
 have hi4 := ind_rJob js
 have hi5 := ind_rOwned ow
 cases R
 ·simp only [Bool.false_and] at hK
  subst hK
  simp only [if_true] at hC
  subst hC
  simp only [Int.reduceEq, if_false, if_true] at hU hI hW
  subst hU hI hW
  exact u_69 (Z2 cro ccp)
 cases KB
 ·simp only [Bool.and_false, Bool.false_and] at hK
  subst hK
  simp only [if_true] at hC
  subst hC
  simp only [Int.reduceEq, if_false, if_true] at hU hI hW
  subst hU hI hW
  exact u_69 (Z3 cro cke ccp)
 by_cases hmx : fm = 1000000000
 ·rw [decide_eq_true hmx] at hK
  simp only [Bool.not_true, Bool.and_false] at hK
  subst hK
  simp only [if_true] at hC
  subst hC
  simp only [Int.reduceEq, if_false, if_true] at hU hI hW
  subst hU hI hW hmx
  exact u_69 (Z3 cro cke ccp)
 have hmx2 : (fm == 1000000000) = false := by simpa using hmx
 rw [decide_eq_false hmx] at hK
 rcases hgi with ⟨rfl, rfl, rfl⟩ | ⟨-, rfl, e1, hnx, rfl⟩
 ·simp only [Bool.and_false, Bool.false_and] at hK
  subst hK
  simp only [if_true] at hC
  subst hC
  simp only [Int.reduceEq, if_false, if_true] at hU hI hW
  subst hU hI hW
  exact u_70 hmx2 (Z4 cro cke ccp cgl)
 rw [e1] at cgl
 clear e1
 have hnz : (next == 0) = false := by simp; omega
 simp only [Bool.not_false, Bool.and_self] at hK
 subst hK
 simp only [Bool.true_eq_false, if_false] at hC
 have hi6 := ind_rLease (ls ++ [NL])
 obtain ⟨fu, f1, f2⟩ := F
 have hi7 := ind_rUser fu
 obtain ⟨mn, mp⟩ := MU
 by_cases hmc : MC = 0
 ·rw [if_pos hmc] at hC
  subst hC hmc
  simp only [Int.reduceEq, if_false, if_true] at hU hI hW
  subst hU hW
  rw [hI]
  clear hI
  have hrl := rOwned_len ow
  refine u_55 (Y2 hnz hmx2) (Z5 cro cke ccp cgl cmu) ?_
  rw [rOwned_app]; rfl
 ·rw [if_neg hmc] at hC
  subst hC
  simp only [Int.reduceEq, if_false, if_true] at hU hI hW
  subst hU hI hW
  have hmc2 : (MC == 0) = false := by simpa using hmc
  exact u_70 (Y3 hnz hmx2 hmc2) (Z5 cro cke ccp cgl cmu)
theorem gu_bad {w : GWorld} {tok : Int} {r : GRole} {key : Int} {path : List UInt8} (h : worldB w = false) : guW w tok r key path = w ∧ guU w tok r key path = zUser ∧ guI w tok r key path = 0 ∧ guC w tok r key path = 1 := by
 have hg : grantB w tok path r.fTtl r.fLimit = false := by unfold grantB; rw [h]; rfl
 have hk : guOk w tok r key path = false := by unfold guOk; rw [hg]; simp
 have hc : guC w tok r key path = 1 := by unfold guC; rw [hk]; rfl
 unfold guW guU guI
 rw [hc]
 exact ⟨rfl, rfl, rfl, rfl⟩
theorem i_GrantUser_ok [MaxL GG] [P10 GG] (w : GWorld) (tok : Int) (r : GRole) (key : Int) (path : List UInt8) (hf : fitW w) (hp : path.length ≤ 1048576) (h1 : r.fName.length ≤ 1048576) (h2 : r.fPrefix.length ≤ 1048576) :
  Valid PP GG 13 [.agg w.c, .d (.int .i64 tok), .agg r.c, .d (.int .i64 key), .d (.str path)] (.tup [.agg (guW w tok r key path).o, .agg (guU w tok r key path).o, .d (.int .i64 (guI w tok r key path)), .d (.int .i64 (guC w tok r key path))]) [none, none, none, none, none] := by
 refine cv Tryz.func13 [.agg (guW w tok r key path).o, .agg (guU w tok r key path).o, .d (.int .i64 (guI w tok r key path)), .d (.int .i64 (guC w tok r key path))] ?_
 have cw := isWorld_ok (GG := GG) w hf
 have ccp := cloneWorld_ok (GG := GG) w hf
 have cgu := fun h => grantUser_ok (GG := GG) w tok r key path hf h hp h1 h2
 have hbad := fun h => gu_bad (w := w) (tok := tok) (r := r) (key := key) (path := path) h
 generalize guW w tok r key path = W at *
 generalize guU w tok r key path = U at *
 generalize guI w tok r key path = I at *
 generalize guC w tok r key path = CC at *
 have hi1 := ind_rToken W.fForest.fTokens
 have hi2 := ind_rLease W.fBook.fLeases
 have hi3 := ind_rUser W.fFar.fUsers
 have hi4 := ind_rJob W.fQueue.fJobs
 have hi5 := ind_rOwned W.fOwned
 cases h : worldB w with
 | false =>
  rw [h] at cw
  obtain ⟨rfl, rfl, rfl, rfl⟩ := hbad h
  exact u_69 (Z2 cw ccp)
 | true =>
  rw [h] at cw
  have cgu := cgu h
  exact u_31 (Z2 cw cgu)
def sw2 {α : Type} (a : List α) (i j : Nat) : List α := match a[i]?, a[j]? with | some x, some y => (a.set i y).set j x | _, _ => a
def swR {α : Type} (a b : Nat) : Nat → Nat → List α → List α
 | 0, _, l => l
 | k + 1, i, l => swR a b k (i + 1) (sw2 l (a + i) (b + i))
def insJ {α : Type} (lt : α → α → Bool) (a : Nat) : Nat → List α → List α
 | 0, l => l
 | j + 1, l => if a < j + 1 then (match l[j + 1]?, l[j]? with | some x, some y => if lt x y then insJ lt a j (sw2 l (j + 1) j) else l | _, _ => l) else l
def insO {α : Type} (lt : α → α → Bool) (a : Nat) : Nat → Nat → List α → List α
 | 0, _, l => l
 | k + 1, i, l => insO lt a k (i + 1) (insJ lt a i l)
def insS {α : Type} (lt : α → α → Bool) (a b : Nat) (l : List α) : List α := insO lt a (b - (a + 1)) (a + 1) l
def rotG {α : Type} (m : Nat) : Nat → Nat → Nat → List α → List α
 | 0, _, _, l => l
 | k + 1, i, j, l => if i = j then swR (m - i) m i 0 l else if j < i then rotG m k (i - j) j (swR (m - i) m j 0 l) else rotG m k i (j - i) (swR (m - i) (m + j - i) i 0 l)
def rot {α : Type} (a m b : Nat) (l : List α) : List α := rotG m (b - a) (m - a) (b - m) l
def bsG (f : Nat → Bool) : Nat → Nat → Nat → Nat
 | 0, i, _ => i
 | k + 1, i, j => if i < j then (if f ((i + j) / 2) then bsG f k ((i + j) / 2 + 1) j else bsG f k i ((i + j) / 2)) else i
def bs (f : Nat → Bool) (i j : Nat) : Nat := bsG f (j - i) i j
def ltA {α : Type} (lt : α → α → Bool) (l : List α) (i j : Nat) : Bool := match l[i]?, l[j]? with | some x, some y => lt x y | _, _ => false
def upS {α : Type} : Nat → Nat → List α → List α
 | 0, _, l => l
 | k + 1, i, l => upS k (i + 1) (sw2 l i (i + 1))
def dnS {α : Type} : Nat → Nat → List α → List α
 | 0, _, l => l
 | k + 1, i, l => dnS k (i - 1) (sw2 l i (i - 1))
def symS {α : Type} (lt : α → α → Bool) (a m b : Nat) (l : List α) : Nat :=
 if (a + b) / 2 < m then bs (fun c => !ltA lt l ((a + b) / 2 + m - 1 - c) c) ((a + b) / 2 + m - b) ((a + b) / 2) else bs (fun c => !ltA lt l ((a + b) / 2 + m - 1 - c) c) a m
def symC {α : Type} (p : Prop) [Decidable p] (f : List α → List α) (l : List α) : List α := if p then f l else l
def symR {α : Type} (f : Nat → Nat → Nat → List α → List α) (a m b s : Nat) (l : List α) : List α :=
 symC ((a + b) / 2 < (a + b) / 2 + m - s ∧ (a + b) / 2 + m - s < b) (f ((a + b) / 2) ((a + b) / 2 + m - s) b) (symC (a < s ∧ s < (a + b) / 2) (f a s ((a + b) / 2)) (symC (s < m ∧ m < (a + b) / 2 + m - s) (rot s m ((a + b) / 2 + m - s)) l))
def symM {α : Type} (lt : α → α → Bool) : Nat → Nat → Nat → Nat → List α → List α
 | 0, _, _, _, l => l
 | k + 1, a, m, b, l =>
  if m - a = 1 then upS (bs (fun h => ltA lt l h a) m b - 1 - a) a l
  else if b - m = 1 then dnS (m - bs (fun h => !ltA lt l m h) a m) m l
  else symR (symM lt k) a m b (symS lt a m b l) l
def stIns {α : Type} (lt : α → α → Bool) (n : Nat) : Nat → Nat → List α → List α
 | 0, a, l => insS lt a n l
 | k + 1, a, l => if a + 20 ≤ n then stIns lt n k (a + 20) (insS lt a (a + 20) l) else insS lt a n l
def stMrg {α : Type} (lt : α → α → Bool) (n s : Nat) : Nat → Nat → List α → List α
 | 0, _, l => l
 | k + 1, a, l => if a + 2 * s ≤ n then stMrg lt n s k (a + 2 * s) (symM lt (2 * s) a (a + s) (a + 2 * s) l) else if a + s < n then symM lt (n - a) a (a + s) n l else l
def stGo {α : Type} (lt : α → α → Bool) (n : Nat) : Nat → Nat → List α → List α
 | 0, _, l => l
 | k + 1, s, l => if s < n then stGo lt n k (2 * s) (stMrg lt n s n 0 l) else l
def stable {α : Type} (lt : α → α → Bool) (l : List α) : List α := stGo lt l.length l.length 20 (stIns lt l.length l.length 0 l)
theorem sw2_len {α : Type} (l : List α) (i j : Nat) : (sw2 l i j).length = l.length := by unfold sw2; split <;> simp
theorem swR_len {α : Type} (a b : Nat) : ∀ (k i : Nat) (l : List α), (swR a b k i l).length = l.length
 | 0, _, l => rfl
 | k + 1, i, l => by rw [swR, swR_len a b k, sw2_len]
theorem insJ_len {α : Type} (lt : α → α → Bool) (a : Nat) : ∀ (j : Nat) (l : List α), (insJ lt a j l).length = l.length
 | 0, l => rfl
 | j + 1, l => by
  rw [insJ]
  split
  ·split
   ·split
    ·rw [insJ_len lt a j, sw2_len]
    ·rfl
   ·rfl
  ·rfl
theorem insO_len {α : Type} (lt : α → α → Bool) (a : Nat) : ∀ (k i : Nat) (l : List α), (insO lt a k i l).length = l.length
 | 0, _, l => rfl
 | k + 1, i, l => by rw [insO, insO_len lt a k, insJ_len]
theorem insS_len {α : Type} (lt : α → α → Bool) (a b : Nat) (l : List α) : (insS lt a b l).length = l.length := insO_len lt a _ _ l
theorem rotG_len {α : Type} (m : Nat) : ∀ (k i j : Nat) (l : List α), (rotG m k i j l).length = l.length
 | 0, _, _, l => rfl
 | k + 1, i, j, l => by
  rw [rotG]
  split
  ·rw [swR_len]
  ·split
   ·rw [rotG_len m k, swR_len]
   ·rw [rotG_len m k, swR_len]
theorem rot_len {α : Type} (a m b : Nat) (l : List α) : (rot a m b l).length = l.length := rotG_len m _ _ _ l
theorem upS_len {α : Type} : ∀ (k i : Nat) (l : List α), (upS k i l).length = l.length
 | 0, _, l => rfl
 | k + 1, i, l => by rw [upS, upS_len k, sw2_len]
theorem dnS_len {α : Type} : ∀ (k i : Nat) (l : List α), (dnS k i l).length = l.length
 | 0, _, l => rfl
 | k + 1, i, l => by rw [dnS, dnS_len k, sw2_len]
theorem symC_len {α : Type} (p : Prop) [Decidable p] (f : List α → List α) (l : List α) (h : ∀ l, (f l).length = l.length) : (symC p f l).length = l.length := by
 unfold symC; split
 ·exact h l
 ·rfl
theorem symM_len {α : Type} (lt : α → α → Bool) : ∀ (k a m b : Nat) (l : List α), (symM lt k a m b l).length = l.length
 | 0, _, _, _, l => rfl
 | k + 1, a, m, b, l => by
  rw [symM]
  split
  ·rw [upS_len]
  split
  ·rw [dnS_len]
  rw [symR, symC_len _ _ _ (symM_len lt k _ _ _), symC_len _ _ _ (symM_len lt k _ _ _), symC_len _ _ _ (rot_len _ _ _)]
theorem stIns_len {α : Type} (lt : α → α → Bool) (n : Nat) : ∀ (k a : Nat) (l : List α), (stIns lt n k a l).length = l.length
 | 0, a, l => by rw [stIns, insS_len]
 | k + 1, a, l => by
  rw [stIns]; split
  ·rw [stIns_len lt n k, insS_len]
  ·rw [insS_len]
theorem stMrg_len {α : Type} (lt : α → α → Bool) (n s : Nat) : ∀ (k a : Nat) (l : List α), (stMrg lt n s k a l).length = l.length
 | 0, _, l => rfl
 | k + 1, a, l => by
  rw [stMrg]; split
  ·rw [stMrg_len lt n s k, symM_len]
  ·split
   ·rw [symM_len]
   ·rfl
theorem stGo_len {α : Type} (lt : α → α → Bool) (n : Nat) : ∀ (k s : Nat) (l : List α), (stGo lt n k s l).length = l.length
 | 0, _, l => rfl
 | k + 1, s, l => by
  rw [stGo]; split
  ·rw [stGo_len lt n k, stMrg_len]
  ·rfl
theorem sw2_at {α : Type} (Q U V : List α) (x y : α) : sw2 (Q ++ x :: (U ++ y :: V)) Q.length (Q.length + (U.length + 1)) = Q ++ y :: (U ++ x :: V) := by
 unfold sw2
 have h1 : (Q ++ x :: (U ++ y :: V))[Q.length]? = some x := by simp
 have h2 : (Q ++ x :: (U ++ y :: V))[Q.length + (U.length + 1)]? = some y := by
  rw [List.getElem?_append_right (by omega)]; simp
 rw [h1, h2]; simp only []
 rw [List.set_append_right _ _ (Nat.le_refl _), List.set_append_right _ _ (by omega)]
 simp
theorem sw2_up {α : Type} (Q V : List α) (x y : α) : sw2 (Q ++ x :: y :: V) Q.length (Q.length + 1) = Q ++ y :: x :: V := by
 have := sw2_at Q [] V x y; simpa using this
theorem sw2_dn {α : Type} (Q V : List α) (x y : α) : sw2 (Q ++ x :: y :: V) (Q.length + 1) Q.length = Q ++ y :: x :: V := by
 unfold sw2
 have h1 : (Q ++ x :: y :: V)[Q.length]? = some x := by simp
 have h2 : (Q ++ x :: y :: V)[Q.length + 1]? = some y := by
  rw [List.getElem?_append_right (by omega)]; simp
 rw [h1, h2]; simp only []
 rw [List.set_append_right _ _ (by omega), List.set_append_right _ _ (by omega)]
 simp
theorem swR_at {α : Type} (a b : Nat) : ∀ (X Y Q N S : List α) (i : Nat), X.length = Y.length → a + i = Q.length → b + i = Q.length + X.length + N.length →
  swR a b X.length i (Q ++ (X ++ (N ++ (Y ++ S)))) = Q ++ (Y ++ (N ++ (X ++ S)))
 | [], [], Q, N, S, i, _, _, _ => rfl
 | x :: X, y :: Y, Q, N, S, i, h, ha, hb => by
  simp only [List.length_cons] at h hb ⊢
  rw [swR]
  have e : sw2 (Q ++ (x :: X ++ (N ++ (y :: Y ++ S)))) (a + i) (b + i) = (Q ++ [y]) ++ (X ++ ((N ++ [x]) ++ (Y ++ S))) := by
   have := sw2_at Q (X ++ N) (Y ++ S) x y
   rw [ha, hb]
   have e2 : Q.length + (X.length + 1) + N.length = Q.length + ((X ++ N).length + 1) := by simp <;> omega
   rw [e2]
   simpa using this
  rw [e, swR_at a b X Y (Q ++ [y]) (N ++ [x]) S (i + 1) (by omega) (by simp <;> omega) (by simp <;> omega)]
  simp
theorem swR_mid {α : Type} (X N Y Q S : List α) (h : X.length = Y.length) : swR Q.length (Q.length + X.length + N.length) X.length 0 (Q ++ (X ++ (N ++ (Y ++ S)))) = Q ++ (Y ++ (N ++ (X ++ S))) :=
 swR_at _ _ X Y Q N S 0 h rfl rfl
theorem split_at {α : Type} (l : List α) (n : Nat) (h : n ≤ l.length) : ∃ A B, l = A ++ B ∧ A.length = n := ⟨l.take n, l.drop n, by simp, by simp <;> omega⟩
theorem rotG_at {α : Type} : ∀ (k : Nat) (P A B S : List α), A.length + B.length ≤ k → 0 < A.length → 0 < B.length → rotG (P.length + A.length) k A.length B.length (P ++ (A ++ (B ++ S))) = P ++ (B ++ (A ++ S))
 | 0, P, A, B, S, h, h1, _ => by omega
 | k + 1, P, A, B, S, h, h1, h2 => by
  rw [rotG]
  split
  ·rename_i e
   have := swR_mid A [] B P S e
   simpa using this
  ·split
   ·rename_i hne hlt
    obtain ⟨A1, A2, rfl, hl⟩ := split_at A B.length (by omega)
    have hs := swR_mid A1 A2 B P S hl
    simp only [List.length_append] at hne hlt h h1 ⊢
    rw [show P.length + (A1.length + A2.length) - (A1.length + A2.length) = P.length by omega]
    have e1 : swR P.length (P.length + (A1.length + A2.length)) B.length 0 (P ++ (A1 ++ A2 ++ (B ++ S))) = (P ++ B) ++ (A2 ++ (A1 ++ S)) := by
     rw [← hl, show P.length + (A1.length + A2.length) = P.length + A1.length + A2.length by omega]; simpa using hs
    rw [e1]
    have := rotG_at k (P ++ B) A2 A1 S (by omega) (by omega) (by omega)
    simp only [List.length_append] at this
    rw [show P.length + B.length + A2.length = P.length + (A1.length + A2.length) by omega, ] at this
    rw [show A1.length + A2.length - B.length = A2.length by omega, ← hl]
    rw [this]; simp
   ·rename_i hne hlt
    obtain ⟨B1, B2, rfl, hl⟩ := split_at B (B.length - A.length) (by omega)
    simp only [List.length_append] at hne hlt h h2 hl ⊢
    have hs := swR_mid A B1 B2 P S (by omega)
    rw [show P.length + A.length - A.length = P.length by omega, show P.length + A.length + (B1.length + B2.length) - A.length = P.length + A.length + B1.length by omega]
    have e1 : swR P.length (P.length + A.length + B1.length) A.length 0 (P ++ (A ++ (B1 ++ B2 ++ S))) = P ++ (B2 ++ (B1 ++ (A ++ S))) := by simpa using hs
    rw [e1]
    have := rotG_at k P B2 B1 (A ++ S) (by omega) (by omega) (by omega)
    rw [show A.length = B2.length by omega, show B1.length + B2.length - B2.length = B1.length by omega, this]; simp
theorem rot_at {α : Type} (P A B S : List α) (h1 : 0 < A.length) (h2 : 0 < B.length) : rot P.length (P.length + A.length) (P.length + A.length + B.length) (P ++ (A ++ (B ++ S))) = P ++ (B ++ (A ++ S)) := by
 unfold rot
 have := rotG_at (A.length + B.length) P A B S (Nat.le_refl _) h1 h2
 rw [show P.length + A.length + B.length - P.length = A.length + B.length by omega, show P.length + A.length - P.length = A.length by omega, show P.length + A.length + B.length - (P.length + A.length) = B.length by omega]
 exact this
theorem upS_at {α : Type} : ∀ (B P S : List α) (x : α), upS B.length P.length (P ++ x :: (B ++ S)) = P ++ (B ++ x :: S)
 | [], P, S, x => rfl
 | y :: B, P, S, x => by
  simp only [List.length_cons]
  rw [upS, List.cons_append, sw2_up]
  have := upS_at B (P ++ [y]) S x
  simpa using this
theorem dnS_at {α : Type} : ∀ (n : Nat) (B P S : List α) (x : α), B.length = n → dnS B.length (P.length + B.length) (P ++ (B ++ x :: S)) = P ++ x :: (B ++ S)
 | 0, B, P, S, x, h => by cases B with | nil => rfl | cons y B => simp at h
 | n + 1, B, P, S, x, h => by
  obtain ⟨B', y, rfl⟩ : ∃ B' y, B = B' ++ [y] := ⟨B.dropLast, B.getLast (by intro e; simp [e] at h), (List.dropLast_concat_getLast _).symm⟩
  simp only [List.length_append, List.length_singleton] at h ⊢
  rw [dnS]
  have := sw2_dn (P ++ B') S y x
  have e : sw2 (P ++ (B' ++ [y] ++ x :: S)) (P.length + (B'.length + 1)) (P.length + (B'.length + 1) - 1) = P ++ (B' ++ x :: (y :: S)) := by
   rw [show P.length + (B'.length + 1) - 1 = (P ++ B').length by simp <;> omega, show P.length + (B'.length + 1) = (P ++ B').length + 1 by simp <;> omega]
   simpa using this
  rw [e, show P.length + (B'.length + 1) - 1 = P.length + B'.length by omega, dnS_at n B' P (y :: S) x (by omega)]
  simp
theorem bsG_spec (f : Nat → Bool) (i0 j0 : Nat) : ∀ (k i j : Nat), j - i ≤ k → i ≤ j → i0 ≤ i → j ≤ j0 → (i = i0 ∨ f (i - 1) = true) → (j = j0 ∨ f j = false) →
  i0 ≤ bsG f k i j ∧ bsG f k i j ≤ j0 ∧ (bsG f k i j = i0 ∨ (i0 < bsG f k i j ∧ f (bsG f k i j - 1) = true)) ∧ (bsG f k i j = j0 ∨ f (bsG f k i j) = false)
 | 0, i, j, h1, h2, h3, h4, h5, h6 => by
  have : i = j := by omega
  subst this
  simp only [bsG]
  exact ⟨h3, h4, by by_cases e : i = i0 <;> simp [e] <;> rcases h5 with h5 | h5 <;> first | exact absurd h5 e | exact ⟨by omega, h5⟩, h6⟩
 | k + 1, i, j, h1, h2, h3, h4, h5, h6 => by
  rw [bsG]
  split
  ·split
   ·rename_i hf
    exact bsG_spec f i0 j0 k _ j (by omega) (by omega) (by omega) h4 (Or.inr (by simpa using hf)) h6
   ·rename_i hf
    exact bsG_spec f i0 j0 k i _ (by omega) (by omega) h3 (by omega) h5 (Or.inr (by simpa using hf))
  ·have : i = j := by omega
   subst this
   exact ⟨h3, h4, by by_cases e : i = i0 <;> simp [e] <;> rcases h5 with h5 | h5 <;> first | exact absurd h5 e | exact ⟨by omega, h5⟩, h6⟩
theorem bs_spec (f : Nat → Bool) (i j : Nat) (h : i ≤ j) : i ≤ bs f i j ∧ bs f i j ≤ j ∧ (bs f i j = i ∨ (i < bs f i j ∧ f (bs f i j - 1) = true)) ∧ (bs f i j = j ∨ f (bs f i j) = false) :=
 bsG_spec f i j (j - i) i j (Nat.le_refl _) h (Nat.le_refl _) (Nat.le_refl _) (Or.inl rfl) (Or.inl rfl)
def TB {α : Type} (lt : α → α → Bool) (R : α → α → Prop) (u x : α) : Prop := (lt x u = true → R x u) ∧ (lt x u = false → R u x)
theorem ltA_app {α : Type} (lt : α → α → Bool) {l : List α} {i j : Nat} {x y : α} (h1 : l[i]? = some x) (h2 : l[j]? = some y) : ltA lt l i j = lt x y := by unfold ltA; rw [h1, h2]
theorem app_at {α : Type} (P S : List α) (x : α) : (P ++ x :: S)[P.length]? = some x := by simp
theorem insJ_at {α : Type} {lt : α → α → Bool} {R : α → α → Prop} (htr : ∀ a b c : α, R a b → R b c → R a c) : ∀ (n : Nat) (P U V : List α) (x : α), U.length = n → U.Pairwise R → (∀ u, u ∈ U → TB lt R u x) →
  ∃ W, insJ lt P.length (P.length + U.length) (P ++ (U ++ x :: V)) = P ++ (W ++ V) ∧ W.Perm (U ++ [x]) ∧ W.Pairwise R
 | 0, P, U, V, x, hn, _, _ => by
  have : U = [] := List.length_eq_zero_iff.1 hn
  subst this
  refine ⟨[x], ?_, List.Perm.refl _, List.pairwise_singleton _ _⟩
  have : insJ lt P.length P.length (P ++ x :: V) = P ++ x :: V := by
   cases hP : P.length with
   | zero => rfl
   | succ k => rw [insJ, if_neg (by omega)]
  simpa using this
 | n + 1, P, U, V, x, hn, hs, ht => by
  obtain ⟨U', y, rfl⟩ : ∃ U' y, U = U' ++ [y] := ⟨U.dropLast, U.getLast (by intro e; simp [e] at hn), (List.dropLast_concat_getLast _).symm⟩
  simp only [List.length_append, List.length_singleton] at hn ⊢
  have ty := ht y (by simp)
  rw [show P.length + (U'.length + 1) = (P.length + U'.length) + 1 by omega, insJ, if_pos (by omega)]
  have e1 : (P ++ (U' ++ [y] ++ x :: V))[P.length + U'.length + 1]? = some x := by
   have := app_at (P ++ (U' ++ [y])) V x
   rw [show (P ++ (U' ++ [y])).length = P.length + U'.length + 1 by simp <;> omega] at this
   simpa using this
  have e2 : (P ++ (U' ++ [y] ++ x :: V))[P.length + U'.length]? = some y := by
   have := app_at (P ++ U') (x :: V) y
   rw [show (P ++ U').length = P.length + U'.length by simp] at this
   simp
  rw [e1, e2]; simp only []
  have hs' := List.pairwise_append.1 hs
  split
  ·rename_i hlt
   have e3 : sw2 (P ++ (U' ++ [y] ++ x :: V)) (P.length + U'.length + 1) (P.length + U'.length) = P ++ (U' ++ x :: (y :: V)) := by
    have := sw2_dn (P ++ U') V y x
    rw [show (P ++ U').length = P.length + U'.length by simp] at this
    simpa using this
   rw [e3]
   obtain ⟨W, hW, hp, hw⟩ := insJ_at htr n P U' (y :: V) x (by omega) hs'.1 fun u hu => ht u (by simp [hu])
   refine ⟨W ++ [y], by rw [hW]; simp, ?_, ?_⟩
   ·have : (U' ++ [y] ++ [x]).Perm (U' ++ [x] ++ [y]) := by
     simp only [List.append_assoc]; exact List.Perm.append_left _ (List.Perm.swap _ _ _)
    exact (List.Perm.append_right [y] hp).trans this.symm
   ·refine List.pairwise_append.2 ⟨hw, List.pairwise_singleton _ _, fun a ha b hb => ?_⟩
    simp at hb; subst hb
    have := hp.mem_iff.1 ha
    simp at this
    rcases this with h | h
    ·exact hs'.2.2 a h b (by simp)
    ·subst h; exact ty.1 hlt
  ·rename_i hlt
   refine ⟨U' ++ [y] ++ [x], by simp, List.Perm.refl _, ?_⟩
   refine List.pairwise_append.2 ⟨hs, List.pairwise_singleton _ _, fun a ha b hb => ?_⟩
   simp at hb; subst hb
   have hyx := ty.2 (by simpa using hlt)
   simp at ha
   rcases ha with h | h
   ·exact htr _ _ _ (hs'.2.2 a h y (by simp)) hyx
   ·subst h; exact hyx
theorem insO_at {α : Type} {lt : α → α → Bool} {R : α → α → Prop} (htr : ∀ a b c : α, R a b → R b c → R a c) : ∀ (X P U V : List α), U.Pairwise R → (∀ u, u ∈ U → ∀ x, x ∈ X → TB lt R u x) → X.Pairwise (TB lt R) →
  ∃ W, insO lt P.length X.length (P.length + U.length) (P ++ (U ++ (X ++ V))) = P ++ (W ++ V) ∧ W.Perm (U ++ X) ∧ W.Pairwise R
 | [], P, U, V, hs, _, _ => ⟨U, rfl, by simp, hs⟩
 | x :: X, P, U, V, hs, ht, hx => by
  simp only [List.length_cons]
  obtain ⟨W, hW, hp, hw⟩ := insJ_at htr U.length P U (X ++ V) x rfl hs fun u hu => ht u hu x (by simp)
  have hx' := List.pairwise_cons.1 hx
  obtain ⟨W2, hW2, hp2, hw2⟩ := insO_at htr X P W V hw (fun u hu y hy => by
   have := hp.mem_iff.1 hu
   simp at this
   rcases this with h | h
   ·exact ht u h y (by simp [hy])
   ·subst h; exact hx'.1 y hy) hx'.2
  have hl : W.length = U.length + 1 := by simpa using hp.length_eq
  refine ⟨W2, ?_, ?_, hw2⟩
  ·rw [insO, List.cons_append, hW, ← hW2, hl, Nat.add_assoc]
  ·refine hp2.trans ?_
   have := List.Perm.append_right X hp
   simpa using this
theorem insS_at {α : Type} {lt : α → α → Bool} {R : α → α → Prop} (htr : ∀ a b c : α, R a b → R b c → R a c) (P X V : List α) (hx : X.Pairwise (TB lt R)) : ∃ W, insS lt P.length (P.length + X.length) (P ++ (X ++ V)) = P ++ (W ++ V) ∧ W.Perm X ∧ W.Pairwise R := by
 cases X with
 | nil =>
  refine ⟨[], ?_, List.Perm.refl _, List.Pairwise.nil⟩
  unfold insS
  rw [show P.length + ([] : List α).length - (P.length + 1) = 0 by simp <;> omega]
  rfl
 | cons x X =>
  have hx' := List.pairwise_cons.1 hx
  obtain ⟨W, hW, hp, hw⟩ := insO_at htr X P [x] V (List.pairwise_singleton _ _) (fun u hu y hy => by simp at hu; subst hu; exact hx'.1 y hy) hx'.2
  refine ⟨W, ?_, by simpa using hp, hw⟩
  unfold insS
  rw [show P.length + (x :: X).length - (P.length + 1) = X.length by simp <;> omega]
  simpa using hW
def SMk {α : Type} (lt : α → α → Bool) (R : α → α → Prop) (k : Nat) : Prop := ∀ P A B S : List α, A.length + B.length ≤ k → 0 < A.length → 0 < B.length → A.Pairwise R → B.Pairwise R → (∀ x, x ∈ A → ∀ y, y ∈ B → TB lt R x y) →
 ∃ C, symM lt k P.length (P.length + A.length) (P.length + A.length + B.length) (P ++ (A ++ (B ++ S))) = P ++ (C ++ S) ∧ C.Perm (A ++ B) ∧ C.Pairwise R
theorem sm_maybe {α : Type} {lt : α → α → Bool} {R : α → α → Prop} {k : Nat} (ih : SMk lt R k) {a m b : Nat} (P A B S : List α) (ha : a = P.length) (hm : m = P.length + A.length) (hb : b = P.length + A.length + B.length) (h : A.length + B.length ≤ k) (h1 : A.Pairwise R) (h2 : B.Pairwise R) (h3 : ∀ x, x ∈ A → ∀ y, y ∈ B → TB lt R x y) {p : Prop} [Decidable p] (hp : p ↔ (0 < A.length ∧ 0 < B.length)) :
  ∃ C, symC p (symM lt k a m b) (P ++ (A ++ (B ++ S))) = P ++ (C ++ S) ∧ C.Perm (A ++ B) ∧ C.Pairwise R := by
 unfold symC
 by_cases hc : p
 ·rw [if_pos hc, ha, hm, hb]
  exact ih P A B S h (hp.1 hc).1 (hp.1 hc).2 h1 h2 h3
 ·rw [if_neg hc]
  refine ⟨A ++ B, by simp, List.Perm.refl _, ?_⟩
  have : A = [] ∨ B = [] := by
   by_cases e : A.length = 0
   ·exact Or.inl (List.length_eq_zero_iff.1 e)
   ·exact Or.inr (List.length_eq_zero_iff.1 (by by_cases e2 : B.length = 0; exact e2; exact absurd (hp.2 ⟨by omega, by omega⟩) hc))
  rcases this with h | h
  ·subst h; simpa using h2
  ·subst h; simpa using h1
theorem rot_maybe {α : Type} {s m e : Nat} (Q A B S : List α) (hs : s = Q.length) (hm : m = Q.length + A.length) (he : e = Q.length + A.length + B.length) : symC (s < m ∧ m < e) (rot s m e) (Q ++ (A ++ (B ++ S))) = Q ++ (B ++ (A ++ S)) := by
 unfold symC
 by_cases hc : s < m ∧ m < e
 ·rw [if_pos hc, hs, hm, he]; exact rot_at Q A B S (by omega) (by omega)
 ·rw [if_neg hc]
  by_cases e : A.length = 0
  ·rw [List.length_eq_zero_iff.1 e]; simp
  ·have : B = [] := List.length_eq_zero_iff.1 (by omega)
   subst this; simp
theorem last_of {α : Type} {l : List α} (h : 0 < l.length) : ∃ l' x, l = l' ++ [x] := ⟨l.dropLast, l.getLast (by intro e; simp [e] at h), (List.dropLast_concat_getLast _).symm⟩
theorem head_of {α : Type} {l : List α} (h : 0 < l.length) : ∃ x l', l = x :: l' := by cases l with | nil => simp at h | cons x l' => exact ⟨x, l', rfl⟩
theorem le_last {α : Type} {R : α → α → Prop} (htr : ∀ a b c : α, R a b → R b c → R a c) {l : List α} {u x z : α} (hs : (l ++ [u]).Pairwise R) (hx : x ∈ l ++ [u]) (h : R u z) : R x z := by
 simp at hx
 rcases hx with hx | hx
 ·exact htr _ _ _ ((List.pairwise_append.1 hs).2.2 x hx u (by simp)) h
 ·subst hx; exact h
theorem ge_head {α : Type} {R : α → α → Prop} (htr : ∀ a b c : α, R a b → R b c → R a c) {l : List α} {v y z : α} (hs : (v :: l).Pairwise R) (hy : y ∈ v :: l) (h : R z v) : R z y := by
 simp at hy
 rcases hy with hy | hy
 ·subst hy; exact h
 ·exact htr _ _ _ h ((List.pairwise_cons.1 hs).1 y hy)
theorem cross {α : Type} {R : α → α → Prop} (htr : ∀ a b c : α, R a b → R b c → R a c) {A B : List α} (hA : A.Pairwise R) (hB : B.Pairwise R) (h : ∀ A' u v B', A = A' ++ [u] → B = v :: B' → R u v) : ∀ x, x ∈ A → ∀ y, y ∈ B → R x y := by
 intro x hx y hy
 obtain ⟨A', u, rfl⟩ := last_of (List.length_pos_of_mem hx)
 obtain ⟨v, B', rfl⟩ := head_of (List.length_pos_of_mem hy)
 exact ge_head htr hB hy (le_last htr hA hx (h A' u v B' rfl rfl))
theorem at_last {α : Type} (P A S : List α) (u : α) (i : Nat) (h : i = P.length + A.length) : (P ++ (A ++ [u] ++ S))[i]? = some u := by
 subst h
 simp
theorem at_head {α : Type} (P A S : List α) (v : α) (i : Nat) (h : i = P.length + A.length) : (P ++ (A ++ (v :: S)))[i]? = some v := by
 subst h
 simp
theorem symM_one {α : Type} {lt : α → α → Bool} {R : α → α → Prop} (htr : ∀ a b c : α, R a b → R b c → R a c) {k : Nat} (P B S : List α) (x : α) (hB : 0 < B.length) (h2 : B.Pairwise R) (h3 : ∀ y, y ∈ B → TB lt R x y) :
  ∃ C, symM lt (k + 1) P.length (P.length + 1) (P.length + 1 + B.length) (P ++ ([x] ++ (B ++ S))) = P ++ (C ++ S) ∧ C.Perm ([x] ++ B) ∧ C.Pairwise R := by
 rw [symM, if_pos (by omega)]
 generalize hl : P ++ ([x] ++ (B ++ S)) = l
 have hsp := bs_spec (fun h => ltA lt l h P.length) (P.length + 1) (P.length + 1 + B.length) (by omega)
 generalize bs (fun h => ltA lt l h P.length) (P.length + 1) (P.length + 1 + B.length) = s at hsp
 obtain ⟨g1, g2, g3, g4⟩ := hsp
 obtain ⟨B1, B2, rfl, hlen⟩ := split_at B (s - (P.length + 1)) (by omega)
 have hp := List.pairwise_append.1 h2
 have hx0 : l[P.length]? = some x := by rw [← hl]; simp
 have k1 : ∀ y, y ∈ B1 → R y x := fun y hy => by
  obtain ⟨B', u, rfl⟩ := last_of (List.length_pos_of_mem hy)
  refine le_last htr hp.1 hy ?_
  have e : l[s - 1]? = some u := by rw [← hl]; have := at_last (P ++ [x]) B' (B2 ++ S) u (s - 1) (by simp at hlen ⊢; omega); simpa using this
  have := g3.resolve_left (by simp at hlen; omega)
  have := this.2
  simp only [ltA_app lt e hx0] at this
  exact (h3 u (by simp)).1 this
 have k2 : ∀ y, y ∈ B2 → R x y := fun y hy => by
  obtain ⟨v, B', rfl⟩ := head_of (List.length_pos_of_mem hy)
  refine ge_head htr hp.2.1 hy ?_
  have e : l[s]? = some v := by rw [← hl]; have := at_head (P ++ [x]) B1 (B' ++ S) v s (by simp; omega); simpa using this
  have := g4.resolve_left (by simp; omega)
  simp only [ltA_app lt e hx0] at this
  exact (h3 v (by simp)).2 this
 refine ⟨B1 ++ x :: B2, ?_, ?_, ?_⟩
 ·rw [show s - 1 - P.length = B1.length by omega, ← hl]
  have := upS_at B1 P (B2 ++ S) x
  simpa using this
 ·simp
 ·refine List.pairwise_append.2 ⟨hp.1, List.pairwise_cons.2 ⟨k2, hp.2.1⟩, fun a ha b hb => ?_⟩
  simp at hb
  rcases hb with hb | hb
  ·subst hb; exact k1 a ha
  ·exact hp.2.2 a ha b hb
theorem symM_last {α : Type} {lt : α → α → Bool} {R : α → α → Prop} (htr : ∀ a b c : α, R a b → R b c → R a c) {k : Nat} (P A S : List α) (y : α) (hA : 1 < A.length) (h1 : A.Pairwise R) (h3 : ∀ x, x ∈ A → TB lt R x y) :
  ∃ C, symM lt (k + 1) P.length (P.length + A.length) (P.length + A.length + 1) (P ++ (A ++ ([y] ++ S))) = P ++ (C ++ S) ∧ C.Perm (A ++ [y]) ∧ C.Pairwise R := by
 rw [symM, if_neg (by omega), if_pos (by omega)]
 generalize hl : P ++ (A ++ ([y] ++ S)) = l
 have hsp := bs_spec (fun h => !ltA lt l (P.length + A.length) h) P.length (P.length + A.length) (by omega)
 generalize bs (fun h => !ltA lt l (P.length + A.length) h) P.length (P.length + A.length) = s at hsp
 obtain ⟨g1, g2, g3, g4⟩ := hsp
 have hy0 : l[P.length + A.length]? = some y := by rw [← hl]; exact at_head P A S y _ rfl
 generalize hm : P.length + A.length = m at *
 obtain ⟨A1, A2, rfl, hlen⟩ := split_at A (s - P.length) (by omega)
 have hp := List.pairwise_append.1 h1
 simp only [List.length_append] at hm
 have k1 : ∀ x, x ∈ A1 → R x y := fun x hx => by
  obtain ⟨B', u, rfl⟩ := last_of (List.length_pos_of_mem hx)
  refine le_last htr hp.1 hx ?_
  have e : l[s - 1]? = some u := by rw [← hl]; have := at_last P B' (A2 ++ ([y] ++ S)) u (s - 1) (by simp at hlen; omega); simpa using this
  have := (g3.resolve_left (by simp at hlen; omega)).2
  simp only [ltA_app lt hy0 e] at this
  exact (h3 u (by simp)).2 (by simpa using this)
 have k2 : ∀ x, x ∈ A2 → R y x := fun x hx => by
  obtain ⟨v, B', rfl⟩ := head_of (List.length_pos_of_mem hx)
  refine ge_head htr hp.2.1 hx ?_
  have e : l[s]? = some v := by rw [← hl]; have := at_head P A1 (B' ++ ([y] ++ S)) v s (by omega); simpa using this
  have := g4.resolve_left (by simp at hm; omega)
  simp only [ltA_app lt hy0 e] at this
  exact (h3 v (by simp)).1 (by simpa using this)
 refine ⟨A1 ++ y :: A2, ?_, ?_, ?_⟩
 ·rw [← hl, show m - s = A2.length by omega]
  have := dnS_at A2.length A2 (P ++ A1) S y rfl
  rw [show (P ++ A1).length + A2.length = m by simp; omega] at this
  simpa using this
 ·have := (List.perm_append_comm (l₁ := A2) (l₂ := [y]))
  have := List.Perm.append_left A1 this
  simpa using this.symm
 ·refine List.pairwise_append.2 ⟨hp.1, List.pairwise_cons.2 ⟨k2, hp.2.1⟩, fun a ha b hb => ?_⟩
  simp at hb
  rcases hb with hb | hb
  ·subst hb; exact k1 a ha
  ·exact hp.2.2 a ha b hb
theorem symM_cut {α : Type} {lt : α → α → Bool} (a m b : Nat) (l : List α) (h1 : a < m) (h2 : m < b) : a ≤ symS lt a m b l ∧ symS lt a m b l ≤ m ∧ symS lt a m b l ≤ (a + b) / 2 ∧ (a + b) / 2 + m - b ≤ symS lt a m b l ∧
  (symS lt a m b l = a ∨ (a + b) / 2 + m - symS lt a m b l = b ∨ (a < symS lt a m b l ∧ ltA lt l ((a + b) / 2 + m - symS lt a m b l) (symS lt a m b l - 1) = false)) ∧
  (symS lt a m b l = m ∨ (a + b) / 2 + m - symS lt a m b l = m ∨ ltA lt l ((a + b) / 2 + m - symS lt a m b l - 1) (symS lt a m b l) = true) := by
 unfold symS
 by_cases hc : (a + b) / 2 < m
 ·rw [if_pos hc]
  have hsp := bs_spec (fun c => !ltA lt l ((a + b) / 2 + m - 1 - c) c) ((a + b) / 2 + m - b) ((a + b) / 2) (by omega)
  generalize bs (fun c => !ltA lt l ((a + b) / 2 + m - 1 - c) c) ((a + b) / 2 + m - b) ((a + b) / 2) = s at hsp
  obtain ⟨g1, g2, g3, g4⟩ := hsp
  refine ⟨by omega, by omega, g2, g1, ?_, ?_⟩
  ·rcases g3 with g3 | ⟨g3, g5⟩
   ·exact Or.inr (Or.inl (by omega))
   ·refine Or.inr (Or.inr ⟨by omega, ?_⟩)
    rw [show (a + b) / 2 + m - 1 - (s - 1) = (a + b) / 2 + m - s by omega] at g5
    simpa using g5
  ·rcases g4 with g4 | g4
   ·exact Or.inr (Or.inl (by omega))
   ·refine Or.inr (Or.inr ?_)
    rw [show (a + b) / 2 + m - 1 - s = (a + b) / 2 + m - s - 1 by omega] at g4
    simpa using g4
 ·rw [if_neg hc]
  have hsp := bs_spec (fun c => !ltA lt l ((a + b) / 2 + m - 1 - c) c) a m (by omega)
  generalize bs (fun c => !ltA lt l ((a + b) / 2 + m - 1 - c) c) a m = s at hsp
  obtain ⟨g1, g2, g3, g4⟩ := hsp
  refine ⟨by omega, by omega, by omega, by omega, ?_, ?_⟩
  ·rcases g3 with g3 | ⟨g3, g5⟩
   ·exact Or.inl g3
   ·refine Or.inr (Or.inr ⟨by omega, ?_⟩)
    rw [show (a + b) / 2 + m - 1 - (s - 1) = (a + b) / 2 + m - s by omega] at g5
    simpa using g5
  ·rcases g4 with g4 | g4
   ·exact Or.inl g4
   ·refine Or.inr (Or.inr ?_)
    rw [show (a + b) / 2 + m - 1 - s = (a + b) / 2 + m - s - 1 by omega] at g4
    simpa using g4
set_option maxHeartbeats 2000000 in
theorem symM_at {α : Type} {lt : α → α → Bool} {R : α → α → Prop} (htr : ∀ a b c : α, R a b → R b c → R a c) : ∀ k, SMk lt R k
 | 0 => fun P A B S h h1 _ _ _ _ => by omega
 | k + 1 => fun P A B S h hA hB h1 h2 h3 => by
  by_cases c1 : A.length = 1
  ·obtain ⟨x, rfl⟩ := List.length_eq_one_iff.1 c1
   exact symM_one htr P B S x hB h2 fun y hy => h3 x (by simp) y hy
  by_cases c2 : B.length = 1
  ·obtain ⟨y, rfl⟩ := List.length_eq_one_iff.1 c2
   exact symM_last htr P A S y (by omega) h1 fun x hx => h3 x hx y (by simp)
  have ih : SMk lt R k := symM_at htr k
  rw [symM, if_neg (by omega), if_neg (by omega)]
  have hcut := symM_cut (lt := lt) P.length (P.length + A.length) (P.length + A.length + B.length) (P ++ (A ++ (B ++ S))) (by omega) (by omega)
  unfold symR
  generalize symS lt P.length (P.length + A.length) (P.length + A.length + B.length) (P ++ (A ++ (B ++ S))) = s at hcut ⊢
  obtain ⟨g1, g2, g3, g4, g5, g6⟩ := hcut
  generalize hmid : (P.length + (P.length + A.length + B.length)) / 2 = mid at *
  generalize he : mid + (P.length + A.length) - s = e at *
  obtain ⟨A1, A2, rfl, hA1⟩ := split_at A (s - P.length) (by omega)
  obtain ⟨B1, B2, rfl, hB1⟩ := split_at B (e - (P.length + (A1 ++ A2).length)) (by omega)
  simp only [List.length_append] at *
  have pA := List.pairwise_append.1 h1
  have pB := List.pairwise_append.1 h2
  have x1 : ∀ x, x ∈ A1 → ∀ y, y ∈ B2 → R x y := cross htr pA.1 pB.2.1 fun A' u v B' ea eb => by
   subst ea; subst eb
   simp only [List.length_append, List.length_cons, List.length_nil] at *
   have := (g5.resolve_left (by omega)).resolve_left (by omega)
   have e1 : (P ++ (A' ++ [u] ++ A2 ++ (B1 ++ v :: B' ++ S)))[s - 1]? = some u := by have := at_last P A' (A2 ++ (B1 ++ v :: B' ++ S)) u (s - 1) (by omega); simpa using this
   have e2 : (P ++ (A' ++ [u] ++ A2 ++ (B1 ++ v :: B' ++ S)))[e]? = some v := by have := at_head (P ++ (A' ++ [u] ++ A2)) B1 (B' ++ S) v e (by simp; omega); simpa using this
   rw [ltA_app lt e2 e1] at this
   exact (h3 u (by simp) v (by simp)).2 this.2
  have x2 : ∀ y, y ∈ B1 → ∀ x, x ∈ A2 → R y x := cross htr pB.1 pA.2.1 fun B' v u A' eb ea => by
   subst ea; subst eb
   simp only [List.length_append, List.length_cons, List.length_nil] at *
   have := (g6.resolve_left (by omega)).resolve_left (by omega)
   have e1 : (P ++ (A1 ++ u :: A' ++ (B' ++ [v] ++ B2 ++ S)))[s]? = some u := by have := at_head P A1 (A' ++ (B' ++ [v] ++ B2 ++ S)) u s (by omega); simpa using this
   have e2 : (P ++ (A1 ++ u :: A' ++ (B' ++ [v] ++ B2 ++ S)))[e - 1]? = some v := by have := at_last (P ++ (A1 ++ u :: A')) B' (B2 ++ S) v (e - 1) (by simp; omega); simpa using this
   rw [ltA_app lt e2 e1] at this
   exact (h3 u (by simp) v (by simp)).1 this
  have r1 := rot_maybe (s := s) (m := P.length + (A1.length + A2.length)) (e := e) (P ++ A1) A2 B1 (B2 ++ S) (by simp; omega) (by simp; omega) (by simp; omega)
  have e0 : P ++ (A1 ++ A2 ++ (B1 ++ B2 ++ S)) = P ++ A1 ++ (A2 ++ (B1 ++ (B2 ++ S))) := by simp
  rw [e0, r1]
  obtain ⟨C1, hC1, pC1, sC1⟩ := sm_maybe ih (a := P.length) (m := s) (b := mid) (p := P.length < s ∧ s < mid) P A1 B1 (A2 ++ (B2 ++ S)) rfl (by omega) (by omega) (by omega) pA.1 pB.1 (fun x hx y hy => h3 x (by simp [hx]) y (by simp [hy])) (by constructor <;> intro h <;> omega)
  have e1 : P ++ A1 ++ (B1 ++ (A2 ++ (B2 ++ S))) = P ++ (A1 ++ (B1 ++ (A2 ++ (B2 ++ S)))) := by simp
  rw [e1, hC1]
  have lC1 := pC1.length_eq
  simp only [List.length_append] at lC1
  obtain ⟨C2, hC2, pC2, sC2⟩ := sm_maybe ih (a := mid) (m := e) (b := P.length + (A1.length + A2.length) + (B1.length + B2.length)) (p := mid < e ∧ e < P.length + (A1.length + A2.length) + (B1.length + B2.length)) (P ++ C1) A2 B2 S (by simp; omega) (by simp; omega) (by simp; omega) (by omega) pA.2.1 pB.2.1 (fun x hx y hy => h3 x (by simp [hx]) y (by simp [hy])) (by constructor <;> intro h <;> omega)
  have e2 : P ++ (C1 ++ (A2 ++ (B2 ++ S))) = P ++ C1 ++ (A2 ++ (B2 ++ S)) := by simp
  rw [e2, hC2]
  refine ⟨C1 ++ C2, by simp, ?_, ?_⟩
  ·refine (pC1.append pC2).trans ?_
   simp only [List.append_assoc]
   refine List.Perm.append_left A1 ?_
   rw [← List.append_assoc, ← List.append_assoc]
   exact List.Perm.append_right B2 List.perm_append_comm
  ·refine List.pairwise_append.2 ⟨sC1, sC2, fun x hx y hy => ?_⟩
   have mx := pC1.mem_iff.1 hx
   have my := pC2.mem_iff.1 hy
   simp at mx my
   rcases mx with mx | mx <;> rcases my with my | my
   ·exact pA.2.2 x mx y my
   ·exact x1 x mx y my
   ·exact x2 x mx y my
   ·exact pB.2.2 x mx y my
inductive Blks {α : Type} (lt : α → α → Bool) (R : α → α → Prop) (s : Nat) : List α → Prop
 | last (X : List α) : X.length ≤ s → X.Pairwise R → Blks lt R s X
 | cons (X Y : List α) : X.length = s → X.Pairwise R → (∀ x, x ∈ X → ∀ y, y ∈ Y → TB lt R x y) → Blks lt R s Y → Blks lt R s (X ++ Y)
theorem blks_le {α : Type} {lt : α → α → Bool} {R : α → α → Prop} {s : Nat} {Z : List α} (h : Blks lt R s Z) (hl : Z.length ≤ s) : Z.Pairwise R := by
 cases h with
 | last _ _ h2 => exact h2
 | cons X Y h1 h2 h3 h4 =>
  simp only [List.length_append] at hl
  have : Y = [] := List.length_eq_zero_iff.1 (by omega)
  subst this; simpa using h2
theorem blks_gt {α : Type} {lt : α → α → Bool} {R : α → α → Prop} {s : Nat} {Z : List α} (h : Blks lt R s Z) (hl : s < Z.length) : ∃ X Y, Z = X ++ Y ∧ X.length = s ∧ X.Pairwise R ∧ (∀ x, x ∈ X → ∀ y, y ∈ Y → TB lt R x y) ∧ Blks lt R s Y := by
 cases h with
 | last _ h1 _ => omega
 | cons X Y h1 h2 h3 h4 => exact ⟨X, Y, rfl, h1, h2, h3, h4⟩
theorem blks_ge {α : Type} {lt : α → α → Bool} {R : α → α → Prop} {s : Nat} {Z : List α} (h : Blks lt R s Z) (hl : s ≤ Z.length) : ∃ X Y, Z = X ++ Y ∧ X.length = s ∧ X.Pairwise R ∧ (∀ x, x ∈ X → ∀ y, y ∈ Y → TB lt R x y) ∧ Blks lt R s Y := by
 cases h with
 | last _ h1 h2 => exact ⟨Z, [], by simp, by omega, h2, fun x _ y hy => by simp at hy, .last [] (by simp) List.Pairwise.nil⟩
 | cons X Y h1 h2 h3 h4 => exact ⟨X, Y, rfl, h1, h2, h3, h4⟩
theorem stIns_at {α : Type} {lt : α → α → Bool} {R : α → α → Prop} (htr : ∀ a b c : α, R a b → R b c → R a c) : ∀ (k : Nat) (P X : List α), X.length ≤ k → X.Pairwise (TB lt R) → ∃ Y, stIns lt (P.length + X.length) k P.length (P ++ X) = P ++ Y ∧ Y.Perm X ∧ Blks lt R 20 Y
 | 0, P, X, h, hx => by
  obtain ⟨W, hW, hp, hw⟩ := insS_at htr P X [] hx
  simp only [List.append_nil] at hW
  exact ⟨W, hW, hp, .last W (by rw [hp.length_eq]; omega) hw⟩
 | k + 1, P, X, h, hx => by
  rw [stIns]
  split
  ·obtain ⟨X1, X2, rfl, hl⟩ := split_at X 20 (by omega)
   have hp := List.pairwise_append.1 hx
   obtain ⟨W, hW, hpm, hw⟩ := insS_at htr P X1 X2 hp.1
   rw [hl] at hW
   rw [hW]
   have hwl := hpm.length_eq
   obtain ⟨Y, hY, hpY, hb⟩ := stIns_at htr k (P ++ W) X2 (by simp only [List.length_append] at h; omega) hp.2.1
   refine ⟨W ++ Y, ?_, hpm.append hpY, .cons W Y (by omega) hw (fun x hx y hy => hp.2.2 x (hpm.mem_iff.1 hx) y (hpY.mem_iff.1 hy)) hb⟩
   simp only [List.length_append] at hY ⊢
   rw [show P.length + (X1.length + X2.length) = P.length + W.length + X2.length by omega, show P.length + 20 = P.length + W.length by omega, ← List.append_assoc, hY]
   simp
  ·obtain ⟨W, hW, hp, hw⟩ := insS_at htr P X [] hx
   simp only [List.append_nil] at hW
   exact ⟨W, hW, hp, .last W (by rw [hp.length_eq]; omega) hw⟩
theorem stMrg_at {α : Type} {lt : α → α → Bool} {R : α → α → Prop} (htr : ∀ a b c : α, R a b → R b c → R a c) (s : Nat) (hs : 0 < s) : ∀ (k : Nat) (P Z : List α), Z.length ≤ k → Blks lt R s Z → ∃ Y, stMrg lt (P.length + Z.length) s k P.length (P ++ Z) = P ++ Y ∧ Y.Perm Z ∧ Blks lt R (2 * s) Y
 | 0, P, Z, h, hb => by
  have : Z = [] := List.length_eq_zero_iff.1 (by omega)
  subst this
  exact ⟨[], rfl, List.Perm.refl _, .last [] (by simp) List.Pairwise.nil⟩
 | k + 1, P, Z, h, hb => by
  rw [stMrg]
  split
  ·rename_i hc
   obtain ⟨X1, Y1, rfl, l1, s1, t1, b1⟩ := blks_gt hb (by omega)
   simp only [List.length_append] at h hc ⊢
   obtain ⟨X2, Z2, rfl, l2, s2, t2, b2⟩ := blks_ge b1 (by omega)
   simp only [List.length_append] at h hc ⊢
   obtain ⟨C, hC, pC, sC⟩ := symM_at htr (2 * s) P X1 X2 Z2 (by omega) (by omega) (by omega) s1 s2 (fun x hx y hy => t1 x hx y (by simp [hy]))
   have lC := pC.length_eq
   simp only [List.length_append] at lC
   rw [l1, l2, show P.length + s + s = P.length + 2 * s by omega] at hC
   rw [hC]
   obtain ⟨Y, hY, pY, bY⟩ := stMrg_at htr s hs k (P ++ C) Z2 (by omega) b2
   refine ⟨C ++ Y, ?_, ?_, .cons C Y (by omega) sC (fun x hx y hy => ?_) bY⟩
   ·simp only [List.length_append] at hY
    rw [show P.length + (X1.length + (X2.length + Z2.length)) = P.length + C.length + Z2.length by omega, show P.length + 2 * s = P.length + C.length by omega, ← List.append_assoc, hY]
    simp
   ·have := pC.append pY
    simpa using this
   ·have hx := pC.mem_iff.1 hx
    have hy := pY.mem_iff.1 hy
    rcases List.mem_append.1 hx with hx | hx
    ·exact t1 x hx y (by simp [hy])
    ·exact t2 x hx y hy
  ·split
   ·rename_i hc hd
    obtain ⟨X1, Y1, rfl, l1, s1, t1, b1⟩ := blks_gt hb (by omega)
    simp only [List.length_append] at h hc hd ⊢
    have s2 := blks_le b1 (by omega)
    obtain ⟨C, hC, pC, sC⟩ := symM_at htr (P.length + (X1.length + Y1.length) - P.length) P X1 Y1 [] (by omega) (by omega) (by omega) s1 s2 t1
    have lC := pC.length_eq
    simp only [List.length_append] at lC
    rw [l1] at hC
    simp only [List.append_nil] at hC
    refine ⟨C, ?_, pC, .last C (by omega) sC⟩
    rw [← hC, l1, show P.length + (s + Y1.length) = P.length + s + Y1.length by omega]
   ·rename_i hc hd
    exact ⟨Z, rfl, List.Perm.refl _, .last Z (by omega) (blks_le hb (by omega))⟩
theorem stGo_at {α : Type} {lt : α → α → Bool} {R : α → α → Prop} (htr : ∀ a b c : α, R a b → R b c → R a c) : ∀ (k s : Nat) (Z : List α), 0 < s → Z.length ≤ s + k → Blks lt R s Z → (stGo lt Z.length k s Z).Perm Z ∧ (stGo lt Z.length k s Z).Pairwise R
 | 0, s, Z, hs, h, hb => ⟨List.Perm.refl _, blks_le (Z := Z) hb (by omega)⟩
 | k + 1, s, Z, hs, h, hb => by
  rw [stGo]
  split
  ·obtain ⟨Y, hY, pY, bY⟩ := stMrg_at htr s hs Z.length [] Z (Nat.le_refl _) hb
   simp only [List.length_nil, Nat.zero_add, List.nil_append] at hY
   have ly := pY.length_eq
   have := stGo_at htr k (2 * s) Y (by omega) (by omega) bY
   rw [hY, ← ly]
   exact ⟨this.1.trans pY, this.2⟩
  ·exact ⟨List.Perm.refl _, blks_le hb (by omega)⟩
theorem stable_at {α : Type} {lt : α → α → Bool} {R : α → α → Prop} (htr : ∀ a b c : α, R a b → R b c → R a c) (l : List α) (h : l.Pairwise (TB lt R)) : (stable lt l).Perm l ∧ (stable lt l).Pairwise R := by
 unfold stable
 obtain ⟨Y, hY, pY, bY⟩ := stIns_at htr l.length [] l (Nat.le_refl _) h
 simp only [List.length_nil, Nat.zero_add, List.nil_append] at hY
 have ly := pY.length_eq
 rw [hY, ← ly]
 have := stGo_at htr Y.length 20 Y (by omega) (by omega) bY
 exact ⟨this.1.trans pY, this.2⟩
def ltE (x y : GLease) : Bool := decide (x.fEnds < y.fEnds)
def keepO (b : GBook) (now : Int) : GBook := ⟨b.fLeases.filter fun l => !decide (l.fEnds ≤ now)⟩
def overO (b : GBook) (now : Int) : List GLease := stable ltE (b.fLeases.filter fun l => decide (l.fEnds ≤ now))
def ordE (x u : GLease) : Prop := x.fEnds < u.fEnds ∨ x.fEnds = u.fEnds ∧ x.fId < u.fId
theorem ordE_tr (a b c : GLease) (h1 : ordE a b) (h2 : ordE b c) : ordE a c := by unfold ordE at *; omega
def insE (l : GLease) : List GLease → List GLease
 | [] => [l]
 | g :: r => if l.fEnds < g.fEnds then l :: g :: r else g :: insE l r
def goE (l : GLease) : List GLease → List GLease → Bool → List GLease
 | [], nx, put => if put then nx else nx ++ [l]
 | g :: r, nx, put => if !put && decide (l.fEnds < g.fEnds) then goE l r (nx ++ [l] ++ [g]) true else goE l r (nx ++ [g]) put
def foE (now : Int) : List GLease → List GLease → List GLease
 | G, [] => G
 | G, l :: r => foE now (if l.fEnds ≤ now then insE l G else G) r
theorem goE_true (l : GLease) : ∀ (G nx : List GLease), goE l G nx true = nx ++ G
 | [], nx => by simp [goE]
 | g :: r, nx => by rw [goE]; simp [goE_true l r]
theorem goE_false (l : GLease) : ∀ (G nx : List GLease), goE l G nx false = nx ++ insE l G
 | [], nx => by simp [goE, insE]
 | g :: r, nx => by
  rw [goE, insE]
  by_cases h : l.fEnds < g.fEnds
  ·simp [h, goE_true]
  ·simp [h, goE_false l r]
theorem insE_perm (l : GLease) : ∀ G : List GLease, (insE l G).Perm (G ++ [l])
 | [] => List.Perm.refl _
 | g :: r => by
  rw [insE]
  split
  ·have := List.perm_append_comm (l₁ := [l]) (l₂ := g :: r); simpa using this
  ·exact (insE_perm l r).cons g
theorem insE_len (l : GLease) (G : List GLease) : (insE l G).length = G.length + 1 := by simpa using (insE_perm l G).length_eq
theorem insE_sorted (l : GLease) : ∀ G : List GLease, G.Pairwise ordE → (∀ g, g ∈ G → g.fId < l.fId) → (insE l G).Pairwise ordE
 | [], _, _ => List.pairwise_singleton _ _
 | g :: r, hs, hi => by
  have h2 := List.pairwise_cons.1 hs
  rw [insE]
  split
  ·rename_i h
   refine List.pairwise_cons.2 ⟨fun y hy => ?_, hs⟩
   simp at hy
   rcases hy with hy | hy
   ·subst hy; exact Or.inl h
   ·exact ordE_tr l g y (Or.inl h) (h2.1 y hy)
  ·rename_i h
   refine List.pairwise_cons.2 ⟨fun y hy => ?_, insE_sorted l r h2.2 fun g hg => hi g (by simp [hg])⟩
   have := (insE_perm l r).mem_iff.1 hy
   simp at this
   rcases this with hy | hy
   ·exact h2.1 y hy
   ·subst hy
    have := hi g (by simp)
    unfold ordE; omega
theorem foE_spec (now : Int) : ∀ (a G : List GLease), G.Pairwise ordE → a.Pairwise (fun x y => x.fId < y.fId) → (∀ g, g ∈ G → ∀ l, l ∈ a → g.fId < l.fId) → (foE now G a).Perm (G ++ a.filter fun l => decide (l.fEnds ≤ now)) ∧ (foE now G a).Pairwise ordE
 | [], G, hs, _, _ => ⟨by simp [foE], hs⟩
 | l :: r, G, hs, ha, hi => by
  have h2 := List.pairwise_cons.1 ha
  rw [foE]
  split
  ·rename_i h
   have := foE_spec now r (insE l G) (insE_sorted l G hs fun g hg => hi g hg l (by simp)) h2.2 fun g hg x hx => by
    have := (insE_perm l G).mem_iff.1 hg
    simp at this
    rcases this with hg | hg
    ·exact hi g hg x (by simp [hx])
    ·subst hg; exact h2.1 x hx
   refine ⟨this.1.trans ?_, this.2⟩
   rw [List.filter_cons_of_pos (by simpa using h)]
   have := (insE_perm l G).append_right (r.filter fun l => decide (l.fEnds ≤ now))
   simpa using this
  ·rename_i h
   have := foE_spec now r G hs h2.2 fun g hg x hx => hi g hg x (by simp [hx])
   rw [List.filter_cons_of_neg (by simpa using h)]
   exact this
theorem overO_eq {b : GBook} (now : Int) (h : b.fLeases.Pairwise fun x y => x.fId < y.fId) : overO b now = foE now [] b.fLeases := by
 have h1 := foE_spec now b.fLeases [] List.Pairwise.nil h (fun g hg => by simp at hg)
 have hT : (b.fLeases.filter fun l => decide (l.fEnds ≤ now)).Pairwise (TB ltE ordE) := by
  refine (h.filter _).imp fun {x y} hxy => ⟨fun hl => ?_, fun hl => ?_⟩
  ·exact Or.inl (of_decide_eq_true hl)
  ·have := of_decide_eq_false hl
   unfold ordE; omega
 have h2 := stable_at ordE_tr _ hT
 unfold overO
 refine List.Perm.eq_of_pairwise (le := ordE) (fun x y _ _ hxy hyx => ?_) h2.2 h1.2 (h2.1.trans (by simpa using h1.1.symm))
 unfold ordE at hxy hyx; omega
theorem bookO_inc {b : GBook} (h : bookB b = true) : b.fLeases.Pairwise fun x y => x.fId < y.fId := by
 unfold bookB at h
 rw [Bool.and_eq_true] at h
 have := okP_inc (q := leaseQ) (key := fun l : GLease => l.fId) (fun pre x hq => by unfold leaseQ at hq; rw [Bool.and_eq_true] at hq; exact hq.2) h.2
 exact this
theorem s_DropOver_ok [MaxL GG] (b : GBook) (now : Int) (hf : fitB b) (hb : bookB b = true) :
  Valid PP GG 164 [.agg b.c, .d (.int .i64 now)] (.tup [.agg (keepO b now).o, .own 0 6 (rLease (overO b now))]) [none, none] := by
 refine cv Tryz.func164 [.agg (keepO b now).o, .own 0 6 (rLease (overO b now))] ?_
 have hK : keepO b now = ⟨b.fLeases.filter fun l => !decide (l.fEnds ≤ now)⟩ := rfl
 have cbo := s_BookOk_ok (GG := GG) b hf
 rw [hb] at cbo
 rw [hK, overO_eq now (bookO_inc hb)]
 clear hK
 have hl := hf.1
 obtain ⟨a⟩ := b
 dsimp only at hl
 generalize hT : foE now [] a = T
 refine u_36 (Z1 cbo) ?_
 refine W_nilP 6 0 rfl rfl rfl ?_
 refine u_28 ?_
 refine W_loop (fun n st => ∃ (i : Nat) (G : List GLease), n = a.length - i ∧ i ≤ a.length ∧ G.length ≤ i ∧ foE now G (a.drop i) = T ∧
  st = ⟨[], [(1, .d (.int .i64 now)), (2, .ptr 0 0), (4, .ptr 1 0), (6, .ptr 2 0), (7, .sl 3), (8, .d (.int .i64 i))], [(0, .box [.d (.slc 6 (rLease a))]), (1, .box [.nil 0 6]), (2, .box [.sl 4]), (3, .arr 0 0 6 (rLease G)), (4, .arr 0 0 6 (rLease ((a.take i).filter fun l => !decide (l.fEnds ≤ now))))], 5⟩) _ ⟨0, [], rfl, by omega, by simp, hT, ?_⟩ ?_
 ·exact u_56
 rintro n st ⟨i, G, rfl, hi, hG, hs, rfl⟩
 by_cases hlt : i < a.length
 rotate_left
 ·have hie : i = a.length := by omega
  subst hie
  rw [List.drop_length] at hs
  rw [foE] at hs
  subst hs
  rw [List.take_length]
  have hi4 := ind_rLease G
  have hi5 := ind_rLease (a.filter fun l => !decide (l.fEnds ≤ now))
  generalize (a.filter fun l => !decide (l.fEnds ≤ now)) = b2 at *
  exact u_27
 have ha := List.getElem?_eq_getElem hlt
 rw [List.drop_eq_getElem_cons hlt, foE] at hs
 generalize a[i] = x at ha hs
 have hsc2 := filter_succ (p := fun l : GLease => !decide (l.fEnds ≤ now)) (f := GLease.row) ha
 have hlen2 := filter_take_len (fun l : GLease => !decide (l.fEnds ≤ now)) GLease.row a i
 rw [show ∀ l : List GLease, (l.filter fun l => !decide (l.fEnds ≤ now)).map GLease.row = rLease (l.filter fun l => !decide (l.fEnds ≤ now)) from fun l => rfl] at hsc2 hlen2
 rw [show ∀ l : List GLease, (l.filter fun l => !decide (l.fEnds ≤ now)).map GLease.row = rLease (l.filter fun l => !decide (l.fEnds ≤ now)) from fun l => rfl] at hsc2
 generalize rLease ((a.take i).filter fun l => !decide (l.fEnds ≤ now)) = L2 at *
 obtain ⟨x1, x2, x3, x4, x5, x6⟩ := x
 dsimp only at hsc2 hs
 have e1 : IntKind.i64.wrap ((i : Int) + 1) = (i : Int) + 1 := wrap_id (by omega) (by omega)
 by_cases hx : x5 ≤ now
 rotate_left
 ·rw [decide_eq_false hx] at hsc2
  rw [if_neg hx] at hs
  simp only [Bool.not_false, if_true] at hsc2
  have hx2 : now < x5 := by omega
  refine u_58 (Y2 ha e1) ?_
  refine ⟨a.length - (i + 1), by omega, i + 1, G, rfl, hlt, by omega, hs, ?_⟩
  rw [hsc2]
  exact u_22
 ·rw [decide_eq_true hx] at hsc2
  rw [if_pos hx] at hs
  simp only [Bool.not_true, Bool.false_eq_true, if_false, List.append_nil] at hsc2
  generalize hU : insE ⟨x1, x2, x3, x4, x5, x6⟩ G = U at hs
  have hUl : U.length = G.length + 1 := by rw [← hU, insE_len]
  have hgo := goE_false ⟨x1, x2, x3, x4, x5, x6⟩ G []
  rw [hU, List.nil_append] at hgo
  refine u_58 ha ?_
  refine W_loop (fun n st => ∃ (k : Nat) (nx : List GLease) (put : Bool), n = G.length - k ∧ k ≤ G.length ∧ nx.length ≤ k + put.toNat ∧ goE ⟨x1, x2, x3, x4, x5, x6⟩ (G.drop k) nx put = U ∧
   st = ⟨[], [(1, .d (.int .i64 now)), (2, .ptr 0 0), (4, .ptr 1 0), (6, .ptr 2 0), (7, .sl 3), (8, .d (.int .i64 i)), (9, .ptr 4 0), (10, .sl 5), (11, .d (.bool put)), (12, .d (.int .i64 k))],
    [(0, .box [.d (.slc 6 (rLease a))]), (1, .box [.nil 0 6]), (2, .box [.sl 6]), (3, .arr 0 0 6 (rLease G)), (4, .box [.d (.int .i64 x1), .d (.int .i64 x2), .d (.str x3), .d (.int .i64 x4), .d (.int .i64 x5), .d (.int .i64 x6)]), (5, .arr 0 0 6 (rLease nx)), (6, .arr 0 0 6 L2)], 7⟩) _ ⟨0, [], false, rfl, by omega, by simp, hgo, ?_⟩ ?_
  ·exact u_56
  rintro n st ⟨k, nx, put, rfl, hk, hnx, hg, rfl⟩
  by_cases hkl : k < G.length
  ·have hgk := List.getElem?_eq_getElem hkl
   rw [List.drop_eq_getElem_cons hkl, goE] at hg
   generalize G[k] = y at hgk hg
   obtain ⟨y1, y2, y3, y4, y5, y6⟩ := y
   dsimp only at hg
   have e2 : IntKind.i64.wrap ((k : Int) + 1) = (k : Int) + 1 := wrap_id (by omega) (by omega)
   have hlx := rLease_len nx
   cases put with
   | true =>
    simp only [Bool.toNat_true] at hnx
    simp only [Bool.not_true, Bool.false_and, Bool.false_eq_true, if_false] at hg
    refine u_58 (Y2 hgk e2) ?_
    refine ⟨G.length - (k + 1), by omega, k + 1, _, true, rfl, hkl, ?_, hg, ?_⟩
    ·simp; omega
    ·exact u_56
   | false =>
    simp only [Bool.toNat_false, Nat.add_zero] at hnx
    simp only [Bool.not_false, Bool.true_and] at hg
    by_cases hxy : x5 < y5
    ·rw [if_pos (decide_eq_true hxy)] at hg
     refine u_58 (Y2 hgk e2) ?_
     refine ⟨G.length - (k + 1), by omega, k + 1, _, true, rfl, hkl, ?_, hg, ?_⟩
     ·simp; omega
     ·exact u_56
    ·rw [if_neg (by simpa using hxy)] at hg
     refine u_58 (Y2 hgk e2) ?_
     refine ⟨G.length - (k + 1), by omega, k + 1, _, false, rfl, hkl, ?_, hg, ?_⟩
     ·simp; omega
     ·exact u_56
  ·have hke : k = G.length := by omega
   subst hke
   rw [List.drop_length, goE] at hg
   have hlx := rLease_len nx
   cases put with
   | true =>
    simp only [Bool.toNat_true] at hnx
    simp only [if_true] at hg
    subst hg
    refine u_21 e1 ?_
    refine ⟨a.length - (i + 1), by omega, i + 1, nx, rfl, hlt, by omega, hs, ?_⟩
    rw [hsc2]
    exact u_22
   | false =>
    simp only [Bool.toNat_false, Nat.add_zero] at hnx
    simp only [Bool.false_eq_true, if_false] at hg
    refine u_58 e1 ?_
    refine ⟨a.length - (i + 1), by omega, i + 1, U, rfl, hlt, by omega, hs, ?_⟩
    rw [hsc2, ← hg]
    exact u_56
theorem wo_sub {p : GToken → Bool} {l : List GToken} : ∀ x, x ∈ (wo p l).2 → ∃ t, t ∈ l ∧ t.fId = x := by
 induction l using snoc_ind with
 | h0 => intro x hx; simp [wo] at hx
 | h1 l t ih =>
  intro x hx
  rw [wo_snoc] at hx
  unfold wstep at hx
  split at hx
  ·rcases List.mem_append.1 hx with hx | hx
   ·obtain ⟨s, hs, e⟩ := ih x hx; exact ⟨s, by simp [hs], e⟩
   ·simp at hx; exact ⟨t, by simp, hx.symm⟩
  ·obtain ⟨s, hs, e⟩ := ih x hx; exact ⟨s, by simp [hs], e⟩
theorem wo_zero_take {f : GForest} (h : forestB f = true) (p : GToken → Bool) (i : Nat) : (wo p (f.fTokens.take i)).2.contains 0 = false := by
 cases hc : (wo p (f.fTokens.take i)).2.contains 0 with
 | false => rfl
 | true =>
  obtain ⟨t, ht, e⟩ := wo_sub 0 (List.contains_iff_mem.1 hc)
  have := ((forest_par h).2.1 t (List.mem_of_mem_take ht)).2.1
  omega
def sweepF (f : GForest) (now : Int) : List Int := (wo (fun t => overB t.fEnds now) f.fTokens).2
theorem s_SweepTokens_ok [MaxL GG] (f : GForest) (now : Int) (hf : fitF f) (hb : forestB f = true) :
  Valid PP GG 162 [.agg f.c, .d (.int .i64 now)] (.tup [.agg (lessF f (sweepF f now)).o, .own 0 1 (intsD (sweepF f now))]) [none, none] := by
 refine cv Tryz.func162 [.agg (lessF f (sweepF f now)).o, .own 0 1 (intsD (sweepF f now))] ?_
 have cfo := s_ForestOk_ok (GG := GG) f hf
 rw [hb] at cfo
 have hz := fun i => wo_zero_take hb (fun t => overB t.fEnds now) i
 have hwl := fun l => wo_len (fun t : GToken => overB t.fEnds now) l
 have hSw : sweepF f now = (wo (fun t => overB t.fEnds now) f.fTokens).2 := rfl
 have hsl : (sweepF f now).length ≤ f.fTokens.length := by rw [hSw]; have := hwl f.fTokens; omega
 have hf1 := hf.1
 have hig := ind_ints (sweepF f now)
 have cle := s_l08Less_ok (GG := GG) f.fTokens (sweepF f now) hf (by omega)
 obtain ⟨a⟩ := f
 dsimp only at hf1 hz hSw hsl cle
 repeat' (first | refine W_seq ?_ | refine W_skip ?_ | refine W_block ?_ | refine W_exit ?_ | refine pick_pos rfl ?_ | refine pick_neg rfl ?_ | ((first | refine W_regP fun K hK => ?_ | refine W_regPD fun K hK => ?_ | refine W_ret ?_ | with_reducible refine callQ (cfo) ?_); simp [Fin, intsD]) | (with_reducible refine hK _ ?_; clear hK K) | (with_reducible refine goL_split (fun h => ?_) (fun h => ?_) <;> first | (exfalso; simp at h; first | done | omega | contradiction) | ((try simp at h); simp [intsD])) | with_reducible refine And.intro ?_ ?_ | with_reducible exact okay_rfl rfl | with_reducible assumption | (refine W_cond rfl (fun h => ?_) (fun h => ?_) <;> first | (exfalso; simp at h; first | done | omega | contradiction) | (exfalso; simp_all; done) | (try simp at h)) | omega)
 refine W_loop (fun n st => ∃ i : Nat, n = a.length - i ∧ i ≤ a.length ∧
  st = ⟨[], [(1, .d (.int .i64 now)), (2, .ptr 0 0), (4, .ptr 1 0), (6, .sl 2), (7, .d (.int .i64 i))], [(0, .box [.d (.slc 7 (rToken a))]), (1, .box [.nil 1 7]), (2, .arr 0 0 1 (intsD (wo (fun t => overB t.fEnds now) (a.take i)).2))], 3⟩) _ ⟨0, rfl, by omega, ?_⟩ ?_
 ·simp [gc, closeN, liveA, gcV, gcO, renA, renAs, renO, namesAs, namesA, namesO, posn, wo, intsD]
 rintro n st ⟨i, rfl, hi, rfl⟩
 by_cases hlt : i < a.length
 rotate_left
 ·have hie : i = a.length := by omega
  subst hie
  rw [List.take_length, ← hSw]
  clear hSw hz hwl cfo
  generalize sweepF ⟨a⟩ now = G at *
  generalize lessF ⟨a⟩ G = LF at *
  obtain ⟨lf⟩ := LF
  have hi6 := ind_rToken lf
  have hi7 := ind_rToken a
  exact u_31 (Z1 cle)
 have ha := List.getElem?_eq_getElem hlt
 generalize a[i] = x at ha
 have hws := wo_succ (p := fun t : GToken => overB t.fEnds now) ha
 have hwl1 := hwl (a.take i)
 have hz1 := hz i
 have htl : (a.take i).length ≤ i := by rw [List.length_take]; omega
 generalize wo (fun t => overB t.fEnds now) (a.take i) = S at *
 obtain ⟨r, G⟩ := S
 dsimp only at hwl1 hz1
 unfold wstep at hws
 dsimp only at hws
 have hgl := ints_len G
 have cov := s_l08Over_ok (GG := GG) x now
 have chas := l01Has_ok (GG := GG) G x.fParent (by omega)
 have hin := ind_strs x.fNames
 have e1 : IntKind.i64.wrap ((i : Int) + 1) = (i : Int) + 1 := wrap_id (by omega) (by omega)
 obtain ⟨x1, x2, x3, x4, x5, x6, x7⟩ := x
 dsimp only at hws cov chas hin
 clear cle hSw hz hwl cfo
 cases hov : overB x5 now with
 | true =>
  rw [hov] at cov
  simp only [hov, Bool.true_or, if_true] at hws
  refine u_55 (Y3 ha hgl e1) (Z2 cov chas) ?_
  refine ⟨a.length - (i + 1), by omega, i + 1, rfl, hlt, ?_⟩
  rw [hws]
  exact u_49
 | false =>
  rw [hov] at cov
  simp only [hov, Bool.false_or] at hws
  by_cases hx2 : x2 = 0
  ·subst hx2
   simp only [hz1, Bool.false_eq_true, if_false] at hws
   refine u_55 (Y3 ha hgl e1) (Z1 cov) ?_
   refine ⟨a.length - (i + 1), by omega, i + 1, rfl, hlt, ?_⟩
   rw [hws]
   exact u_49
  ·have hx3 : (x2 != 0) = true := by simpa using hx2
   cases hcn : G.contains x2 with
   | true =>
    rw [hcn] at chas
    simp only [hcn, if_true] at hws
    refine u_55 (Y4 ha hgl hx3 e1) (Z2 cov chas) ?_
    refine ⟨a.length - (i + 1), by omega, i + 1, rfl, hlt, ?_⟩
    rw [hws]
    exact u_49
   | false =>
    rw [hcn] at chas
    simp only [hcn, Bool.false_eq_true, if_false] at hws
    refine u_55 (Y4 ha hgl hx3 e1) (Z2 cov chas) ?_
    refine ⟨a.length - (i + 1), by omega, i + 1, rfl, hlt, ?_⟩
    rw [hws]
    exact u_49
structure GTold where
 fTokens : List Int
 fLeases : List Int
 fGone : List (List UInt8)
 fGiven : List (List UInt8)
 deriving DecidableEq
@[simp] abbrev GTold.row (x : GTold) : List D := [.slc 1 (intsD x.fTokens), .slc 1 (intsD x.fLeases), .slc 1 (strsD x.fGone), .slc 1 (strsD x.fGiven)]
@[simp] abbrev GTold.c (x : GTold) : List C := [.d (.slc 1 (intsD x.fTokens)), .d (.slc 1 (intsD x.fLeases)), .d (.slc 1 (strsD x.fGone)), .d (.slc 1 (strsD x.fGiven))]
@[simp] abbrev GTold.o (x : GTold) : List C := [.own 0 1 (intsD x.fTokens), .own 0 1 (intsD x.fLeases), .own 0 1 (strsD x.fGone), .own 0 1 (strsD x.fGiven)]
def GTold.cost (x : GTold) : Nat := x.fTokens.length + x.fLeases.length + (x.fGone.length + sumBy List.length x.fGone) + (x.fGiven.length + sumBy List.length x.fGiven)
def GTold.ok (x : GTold) : Prop := x.fTokens.length ≤ maxLen ∧ (∀ y, y ∈ x.fTokens → int64 y) ∧ x.fLeases.length ≤ maxLen ∧ (∀ y, y ∈ x.fLeases → int64 y) ∧ x.fGone.length ≤ maxLen ∧ (∀ y, y ∈ x.fGone → y.length ≤ maxLen) ∧ x.fGiven.length ≤ maxLen ∧ (∀ y, y ∈ x.fGiven → y.length ≤ maxLen)
def ptB (w : GWorld) (now : Int) : Bool := worldB w && inB now w.fNow 1000000000
def ptK (w : GWorld) (now : Int) : GBook := keepL w.fBook (sweepF w.fForest now)
def ptL (w : GWorld) (now : Int) : List GLease := goneL w.fBook (sweepF w.fForest now) ++ overO (ptK w now) now
def ptX (w : GWorld) (now : Int) : GWorld := { w with fNow := now, fForest := lessF w.fForest (sweepF w.fForest now), fBook := keepO (ptK w now) now }
def ptW (w : GWorld) (now : Int) : GWorld := if ptB w now then letGo (ptX w now) (ptL w now) else w
def ptR (w : GWorld) (now : Int) : RQ := letRun (letAll (ptX w now) (ptL w now))
def ptT (w : GWorld) (now : Int) : GTold := if ptB w now then ⟨sweepF w.fForest now, (ptL w now).map GLease.fId, (ptR w now).done, (ptR w now).failed⟩ else ⟨[], [], [], []⟩
theorem keepL_book {b : GBook} (g : List Int) (h : bookB b = true) : bookB (keepL b g) = true := by
 have hl : b.fLeases.length ≤ 150 := by unfold bookB at h; rw [Bool.and_eq_true] at h; exact of_decide_eq_true h.1
 have hi := bookO_inc h
 unfold bookB at h ⊢
 rw [Bool.and_eq_true] at h ⊢
 refine ⟨decide_eq_true (Nat.le_trans (List.length_filter_le _ _) hl), okP_of fun i x hx => ?_⟩
 have hm := List.mem_of_getElem? hx
 unfold keepL at hm
 dsimp only at hm
 obtain ⟨j, hj⟩ := List.getElem?_of_mem (List.mem_filter.1 hm).1
 have hq := okP_get h.2 hj
 unfold leaseQ at hq ⊢
 rw [Bool.and_eq_true] at hq ⊢
 refine ⟨hq.1, ?_⟩
 have hi2 : (keepL b g).fLeases.Pairwise fun y x => y.fId < x.fId := hi.filter _
 cases i with
 | zero => simp [adjB]
 | succ i =>
  have hy := List.getElem?_eq_getElem (show i < (keepL b g).fLeases.length by have := (List.getElem?_eq_some_iff.1 hx).1; omega)
  rw [adj_succ _ hy]
  refine decide_eq_true ?_
  rw [List.pairwise_iff_getElem] at hi2
  obtain ⟨h1, rfl⟩ := List.getElem?_eq_some_iff.1 hx
  exact hi2 i (i + 1) (by omega) h1 (by omega)
theorem keepL_fit {b : GBook} (g : List Int) (h : fitB b) : fitB (keepL b g) :=
 ⟨Nat.le_trans (List.length_filter_le _ _) h.1, fun t ht => h.2 t (List.mem_filter.1 ht).1⟩
theorem pt_let {w : GWorld} {now : Int} (hf : fitW w) (h : ptB w now = true) : LetOk (ptX w now) ∧ ownInc (ptX w now) ∧ worldB w = true ∧ bookB w.fBook = true ∧ forestB w.fForest = true := by
 unfold ptB at h
 rw [Bool.and_eq_true] at h
 obtain ⟨hL, hI, hb⟩ := letOk_of2 hf h.1 (lessF w.fForest (sweepF w.fForest now)) (keepO (ptK w now) now)
 obtain ⟨a1, a2, a3, a4, a5, a6, a7, a8⟩ := hL
 have hin := inB_true h.2
 have hn : 0 ≤ w.fNow := a1.1
 exact ⟨⟨⟨by show 0 ≤ now; omega, hin.2⟩, a2, a3, a4, a5, a6, a7, a8⟩, hI, h.1, hb, world_forest h.1⟩
theorem stable_len {α : Type} (lt : α → α → Bool) (l : List α) : (stable lt l).length = l.length := by unfold stable; rw [stGo_len, stIns_len]
theorem ptL_len (w : GWorld) (now : Int) : (ptL w now).length ≤ 2 * w.fBook.fLeases.length := by
 unfold ptL
 have h1 := goneL_len w.fBook (sweepF w.fForest now)
 have h2 : (overO (ptK w now) now).length ≤ w.fBook.fLeases.length := by
  unfold overO
  rw [stable_len]
  exact Nat.le_trans (List.length_filter_le _ _) (List.length_filter_le _ _)
 rw [List.length_append]; omega
theorem sweep_len {w : GWorld} (now : Int) (h : forestB w.fForest = true) : (sweepF w.fForest now).length ≤ 120 := by
 unfold sweepF
 have h1 := wo_len (fun t : GToken => overB t.fEnds now) w.fForest.fTokens
 unfold forestB at h
 simp only [Bool.and_eq_true, decide_eq_true_eq] at h
 omega
end Go.Proofs.YtoomonfpedjgoaaGreatDoor.Ab
