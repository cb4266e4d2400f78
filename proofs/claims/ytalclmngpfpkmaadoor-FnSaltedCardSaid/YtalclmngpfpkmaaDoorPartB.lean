/-
  A part of a proof about the given program; what is proved is said where each theorem stands.
-/
import Derived.Test.YtalclmngpfpkmaaDoorFrameA
import Derived.Test.YtalclmngpfpkmaaDoorFrameB
import Derived.Test.YtalclmngpfpkmaaDoorFrameC
import Derived.Test.YtalclmngpfpkmaaDoorFrameD
import Derived.Test.YtalclmngpfpkmaaDoorFrameE
import Derived.Test.YtalclmngpfpkmaaDoorCodesA
import Derived.Test.YtalclmngpfpkmaaDoorShelf
import Derived.Test.YtalclmngpfpkmaaDoorPartA
namespace Go.Proofs
end Go.Proofs
set_option linter.unusedSimpArgs false
set_option linter.unusedVariables false
set_option maxRecDepth 100000
set_option maxHeartbeats 2000000
namespace Go.Proofs.YtalclmngpfpkmaaDoor.Ab
open Go.Proofs
variable {GG : GV}
theorem lPickT_v (c : Cur) (l : List (List UInt8)) (hc : c.good) (hl : l ≠ []) (hs : l.length ≤ 100) : Valid PP GG F_S_l01PickText [.box c.o, .own 0 1 (strsD l)] (.d (.str (lPick c [] l).1)) [some (.box (lPick c [] l).2.o), none] := by
  refine v_S_l01PickText [.d (.str (lPick c [] l).1)] rfl rfl ?_
  have c1 := lBelow_v (GG := GG) c l.length hc
  obtain ⟨k, hk, hg⟩ := lPick_get c ([] : List UInt8) hl
  have e : (lPick c [] l).2 = (lBelow c l.length).2 := rfl
  rw [e]
  have hkl := (List.getElem?_eq_some_iff.1 hg).1
  generalize (lPick c [] l).1 = v at *
  generalize (lBelow c l.length).2 = c2 at *
  rw [hk] at c1
  repeat' (first | refine W_seq ?_ | refine W_skip ?_ | refine W_block ?_ | refine W_exit ?_ | refine pick_pos rfl ?_ | refine pick_neg rfl ?_ | ((first | refine W_regP fun K hK => ?_ | refine W_regPD fun K hK => ?_ | refine W_ret ?_ | with_reducible refine callQ (c1) ?_); simp [Fin, strsD_len, strs_get, hg]) | (with_reducible refine hK _ ?_; clear hK K) | (with_reducible refine goL_split (fun h => ?_) (fun h => ?_) <;> first | (exfalso; simp at h; first | done | omega | contradiction) | ((try simp at h); simp [strsD_len, strs_get, hg])) | with_reducible refine And.intro ?_ ?_ | with_reducible exact okay_rfl rfl | with_reducible assumption | (refine W_cond rfl (fun h => ?_) (fun h => ?_) <;> first | (exfalso; simp at h; first | done | omega | contradiction) | (exfalso; simp_all; done) | (try simp at h)) | omega)

theorem lSize_v (code : List UInt8) (most : Int) (hs : code.length ≤ 1048577) : Valid PP GG F_S_l01Size [.d (.slc 1 (bytesD code)), .d (.int .i64 most)] (.d (.int .i64 (lSize code.length most))) [none, none] := by
  refine v_S_l01Size [.d (.int .i64 (lSize code.length most))] rfl rfl ?_
  have hl : (bytesD code).length = code.length := bytesD_len code
  have ht : ((code.length : Nat) : Int).tdiv 16 = ((code.length / 16 : Nat) : Int) := rfl
  have hr : lSize code.length most = if most < 2 + ((code.length / 16 : Nat) : Int) then most else 2 + ((code.length / 16 : Nat) : Int) := rfl
  have hb : code.length / 16 ≤ 65537 := by omega
  generalize code.length / 16 = q at *
  have hw1 : IntKind.i64.wrap (q : Int) = (q : Int) := wrap_id (by omega) (by omega)
  have hw2 : IntKind.i64.wrap (2 + (q : Int)) = 2 + (q : Int) := wrap_id (by omega) (by omega)
  by_cases h : most < 2 + (q : Int)
  · rw [if_pos h] at hr
    rw [hr]
    repeat' (first | refine W_seq ?_ | refine W_skip ?_ | refine W_block ?_ | refine W_exit ?_ | refine pick_pos rfl ?_ | refine pick_neg rfl ?_ | ((first | refine W_regP fun K hK => ?_ | refine W_regPD fun K hK => ?_ | refine W_ret ?_); simp [Fin, hl, ht, hw1, hw2]) | (with_reducible refine hK _ ?_; clear hK K) | (with_reducible refine goL_split (fun h => ?_) (fun h => ?_) <;> first | (exfalso; simp at h; first | done | omega | contradiction) | ((try simp at h); simp [hl, ht, hw1, hw2])) | with_reducible refine And.intro ?_ ?_ | with_reducible exact okay_rfl rfl | with_reducible assumption | (refine W_cond rfl (fun h => ?_) (fun h => ?_) <;> first | (exfalso; simp at h; first | done | omega | contradiction) | (exfalso; simp_all; done) | (try simp at h)) | omega)
  · rw [if_neg h] at hr
    rw [hr]
    repeat' (first | refine W_seq ?_ | refine W_skip ?_ | refine W_block ?_ | refine W_exit ?_ | refine pick_pos rfl ?_ | refine pick_neg rfl ?_ | ((first | refine W_regP fun K hK => ?_ | refine W_regPD fun K hK => ?_ | refine W_ret ?_); simp [Fin, hl, ht, hw1, hw2]) | (with_reducible refine hK _ ?_; clear hK K) | (with_reducible refine goL_split (fun h => ?_) (fun h => ?_) <;> first | (exfalso; simp at h; first | done | omega | contradiction) | ((try simp at h); simp [hl, ht, hw1, hw2])) | with_reducible refine And.intro ?_ ?_ | with_reducible exact okay_rfl rfl | with_reducible assumption | (refine W_cond rfl (fun h => ?_) (fun h => ?_) <;> first | (exfalso; simp at h; first | done | omega | contradiction) | (exfalso; simp_all; done) | (try simp at h)) | omega)

theorem lSeg_v (c : Cur) (hc : c.good) : Valid PP GG F_S_l01DrawSegment [.box c.o] (.d (.str (lSeg c).1)) [some (.box (lSeg c).2.o)] := by
  refine v_S_l01DrawSegment [.d (.str (lSeg c).1)] rfl rfl ?_
  have c1 := lOnce_v (GG := GG) c 25 hc
  have c2 : Valid PP GG F_S_l01PickText [.box (lOnce c 25).2.o, .own 0 1 [[.str []], [.str [65]], [.str [97, 47, 98]], [.str [97, 98, 99, 100, 101, 102, 103, 104, 105, 106, 107, 108, 109, 110, 111, 112]], [.str [97, 98, 99, 100, 101, 102, 103, 104, 105, 106, 107, 108, 109, 110, 111, 112, 113]], [.str [45]], [.str [97, 32, 98]], [.str [43, 97]], [.str [42, 42]]]] (.d (.str (lPick (lOnce c 25).2 [] seg1).1)) [some (.box (lPick (lOnce c 25).2 [] seg1).2.o), none] := lPickT_v (lOnce c 25).2 seg1 (lOnce_good hc _) (by decide) (by decide)
  have c3 : Valid PP GG F_S_l01PickText [.box (lOnce c 25).2.o, .own 0 1 [[.str [97]], [.str [98]], [.str [99]], [.str [107, 118]], [.str [100, 98]], [.str [120, 45, 49]], [.str [57]]]] (.d (.str (lPick (lOnce c 25).2 [] seg2).1)) [some (.box (lPick (lOnce c 25).2 [] seg2).2.o), none] := lPickT_v (lOnce c 25).2 seg2 (lOnce_good hc _) (by decide) (by decide)
  have hr : lSeg c = if (lOnce c 25).1 = true then lPick (lOnce c 25).2 [] seg1 else lPick (lOnce c 25).2 [] seg2 := rfl
  generalize lPick (lOnce c 25).2 [] seg1 = p at *
  generalize lPick (lOnce c 25).2 [] seg2 = q at *
  generalize lOnce c 25 = o at *
  obtain ⟨ob, oc⟩ := o
  cases ob
  · rw [if_neg (by simp)] at hr
    rw [hr]
    clear hr c2
    repeat' (first | refine W_seq ?_ | refine W_skip ?_ | refine W_block ?_ | refine W_exit ?_ | refine pick_pos rfl ?_ | refine pick_neg rfl ?_ | ((first | refine W_regP fun K hK => ?_ | refine W_regPD fun K hK => ?_ | refine W_ret ?_ | with_reducible refine callQ (c1) ?_ | with_reducible refine callQ (c3) ?_); simp [Fin]) | (with_reducible refine hK _ ?_; clear hK K) | (with_reducible refine goL_split (fun h => ?_) (fun h => ?_) <;> first | (exfalso; simp at h; first | done | omega | contradiction) | ((try simp at h); simp)) | with_reducible refine And.intro ?_ ?_ | with_reducible exact okay_rfl rfl | with_reducible assumption | (refine W_cond rfl (fun h => ?_) (fun h => ?_) <;> first | (exfalso; simp at h; first | done | omega | contradiction) | (exfalso; simp_all; done) | (try simp at h)) | omega)
  · rw [if_pos rfl] at hr
    rw [hr]
    clear hr c3
    repeat' (first | refine W_seq ?_ | refine W_skip ?_ | refine W_block ?_ | refine W_exit ?_ | refine pick_pos rfl ?_ | refine pick_neg rfl ?_ | ((first | refine W_regP fun K hK => ?_ | refine W_regPD fun K hK => ?_ | refine W_ret ?_ | with_reducible refine callQ (c1) ?_ | with_reducible refine callQ (c2) ?_); simp [Fin]) | (with_reducible refine hK _ ?_; clear hK K) | (with_reducible refine goL_split (fun h => ?_) (fun h => ?_) <;> first | (exfalso; simp at h; first | done | omega | contradiction) | ((try simp at h); simp)) | with_reducible refine And.intro ?_ ?_ | with_reducible exact okay_rfl rfl | with_reducible assumption | (refine W_cond rfl (fun h => ?_) (fun h => ?_) <;> first | (exfalso; simp at h; first | done | omega | contradiction) | (exfalso; simp_all; done) | (try simp at h)) | omega)

theorem lGood_v (c : Cur) (hc : c.good) : Valid PP GG F_S_l04DrawGood [.box c.o] (.d (.int .i64 (lGood c).1)) [some (.box (lGood c).2.o)] := by
  refine v_S_l04DrawGood [.d (.int .i64 (lGood c).1)] rfl rfl ?_
  have c1 := lBelow_v (GG := GG) c 16777216 hc
  have r1 := lBelow_rng c (n := 16777216) (by omega)
  have c2 := lBelow_v (GG := GG) (lBelow c 16777216).2 65536 (lBelow_good hc _)
  have r2 := lBelow_rng (lBelow c 16777216).2 (n := 65536) (by omega)
  have hr : lGood c = ((lBelow c 16777216).1 * 65536 + (lBelow (lBelow c 16777216).2 65536).1, (lBelow (lBelow c 16777216).2 65536).2) := rfl
  rw [hr]
  clear hr
  generalize (lBelow (lBelow c 16777216).2 65536) = q at *
  generalize (lBelow c 16777216) = p at *
  have hw1 : IntKind.i64.wrap (p.1 * 65536) = p.1 * 65536 := wrap_id (by omega) (by omega)
  have hw2 : IntKind.i64.wrap (p.1 * 65536 + q.1) = p.1 * 65536 + q.1 := wrap_id (by omega) (by omega)
  repeat' (first | refine W_seq ?_ | refine W_skip ?_ | refine W_block ?_ | refine W_exit ?_ | refine pick_pos rfl ?_ | refine pick_neg rfl ?_ | ((first | refine W_regP fun K hK => ?_ | refine W_regPD fun K hK => ?_ | refine W_ret ?_ | with_reducible refine callQ (c1) ?_ | with_reducible refine callQ (c2) ?_); simp [Fin, hw1, hw2]) | (with_reducible refine hK _ ?_; clear hK K) | (with_reducible refine goL_split (fun h => ?_) (fun h => ?_) <;> first | (exfalso; simp at h; first | done | omega | contradiction) | ((try simp at h); simp [hw1, hw2])) | with_reducible refine And.intro ?_ ?_ | with_reducible exact okay_rfl rfl | with_reducible assumption | (refine W_cond rfl (fun h => ?_) (fun h => ?_) <;> first | (exfalso; simp at h; first | done | omega | contradiction) | (exfalso; simp_all; done) | (try simp at h)) | omega)

theorem hRun_succ {l : List UInt8} {i : Nat} {x : UInt8} (h : l[i]? = some x) (a : Int) : hRun a (l.take (i + 1)) = hStep (hRun a (l.take i)) x := by
  rw [List.take_add_one, h]
  unfold hRun
  rw [List.foldl_append]
  rfl

theorem lNew_v (code : List UInt8) (hl : code.length ≤ 1048577) : Valid PP GG F_S_l01New [.d (.slc 1 (bytesD code))] (.box (lNew code).o) [none] := by
  refine v_S_l01New [.box (lNew code).o] rfl rfl ?_
  have hbl : (bytesD code).length = code.length := bytesD_len code
  have hw0 : IntKind.i64.wrap (705705 + (code.length : Nat)) = 705705 + (code.length : Nat) := wrap_id (by omega) (by omega)
  repeat' (first | refine W_seq ?_ | refine W_skip ?_ | refine W_block ?_ | refine W_exit ?_ | refine pick_pos rfl ?_ | refine pick_neg rfl ?_ | ((first | refine W_regP fun K hK => ?_ | refine W_regPD fun K hK => ?_ | refine W_ret ?_); simp [Fin, hbl, hw0]) | (with_reducible refine hK _ ?_; clear hK K) | (with_reducible refine goL_split (fun h => ?_) (fun h => ?_) <;> first | (exfalso; simp at h; first | done | omega | contradiction) | ((try simp at h); simp [hbl, hw0])) | with_reducible refine And.intro ?_ ?_ | with_reducible exact okay_rfl rfl | with_reducible assumption | (refine W_cond rfl (fun h => ?_) (fun h => ?_) <;> first | (exfalso; simp at h; first | done | omega | contradiction) | (exfalso; simp_all; done) | (try simp at h)) | omega)
  refine W_loop (fun n st => ∃ i : Nat, n = code.length - i ∧ i ≤ code.length ∧ i ≤ 4000 ∧
    st = ⟨[], [(0, .d (.slc 1 (bytesD code))), (3, .d (.int .i64 (hRun (705705 + (code.length : Nat)) (code.take i)))), (4, .d (.int .i64 i))], [], 0⟩) _ ⟨0, rfl, by omega, by omega, ?_⟩ ?_
  · simp [gc, closeN, liveA, gcV, gcO, renA, renAs, renO, namesAs, namesA, namesO, posn, hRun]
  rintro n st ⟨i, rfl, hi, hi2, rfl⟩
  by_cases hlt : i < code.length
  · by_cases h4 : i < 4000
    · have ha := List.getElem?_eq_getElem hlt
      generalize code[i] = x at ha
      have hs := hRun_succ ha (705705 + (code.length : Nat))
      unfold hStep at hs
      have hx := x.toNat_lt
      generalize hRun (705705 + (code.length : Nat)) (code.take i) = H at *
      have hw1 : IntKind.i64.wrap (x.toNat : Nat) = (x.toNat : Nat) := wrap_id (by omega) (by omega)
      repeat' (first | refine W_seq ?_ | refine W_skip ?_ | refine W_block ?_ | refine W_exit ?_ | refine pick_pos rfl ?_ | refine pick_neg rfl ?_ | ((first | refine W_regP fun K hK => ?_ | refine W_regPD fun K hK => ?_ | refine W_ret ?_); simp [Fin, ha, hbl, and64_ev, hw1]) | (with_reducible refine hK _ ?_; clear hK K) | (with_reducible refine goL_split (fun h => ?_) (fun h => ?_) <;> first | (exfalso; simp at h; first | done | omega | contradiction) | ((try simp at h); simp [ha, hbl, and64_ev, hw1])) | with_reducible refine And.intro ?_ ?_ | with_reducible exact okay_rfl rfl | with_reducible assumption | (refine W_cond rfl (fun h => ?_) (fun h => ?_) <;> first | (exfalso; simp at h; first | done | omega | contradiction) | (exfalso; simp_all; done) | (try simp at h)) | omega)
      refine ⟨code.length - (i + 1), by omega, i + 1, rfl, by omega, by omega, ?_⟩
      rw [hs]
      simp [gc, closeN, liveA, gcV, gcO, renA, renAs, renO, namesAs, namesA, namesO, posn]
      exact wrap_id (by omega) (by omega)
    · have hie : i = 4000 := by omega
      subst hie
      have e : lNew code = ⟨code, 0, hRun (705705 + (code.length : Nat)) (code.take 4000)⟩ := rfl
      rw [e]
      repeat' (first | refine W_seq ?_ | refine W_skip ?_ | refine W_block ?_ | refine W_exit ?_ | refine pick_pos rfl ?_ | refine pick_neg rfl ?_ | ((first | refine W_regP fun K hK => ?_ | refine W_regPD fun K hK => ?_ | refine W_ret ?_); simp [Fin, hbl]) | (with_reducible refine hK _ ?_; clear hK K) | (with_reducible refine goL_split (fun h => ?_) (fun h => ?_) <;> first | (exfalso; simp at h; first | done | omega | contradiction) | ((try simp at h); simp [hbl])) | with_reducible refine And.intro ?_ ?_ | with_reducible exact okay_rfl rfl | with_reducible assumption | (refine W_cond rfl (fun h => ?_) (fun h => ?_) <;> first | (exfalso; simp at h; first | done | omega | contradiction) | (exfalso; simp_all; done) | (try simp at h)) | omega)
  · have hie : i = code.length := by omega
    subst hie
    have e : lNew code = ⟨code, 0, hRun (705705 + (code.length : Nat)) (code.take code.length)⟩ := by
      unfold lNew
      rw [List.take_of_length_le (Nat.le_refl code.length), List.take_of_length_le hi2]
    rw [e]
    repeat' (first | refine W_seq ?_ | refine W_skip ?_ | refine W_block ?_ | refine W_exit ?_ | refine pick_pos rfl ?_ | refine pick_neg rfl ?_ | ((first | refine W_regP fun K hK => ?_ | refine W_regPD fun K hK => ?_ | refine W_ret ?_); simp [Fin, hbl]) | (with_reducible refine hK _ ?_; clear hK K) | (with_reducible refine goL_split (fun h => ?_) (fun h => ?_) <;> first | (exfalso; simp at h; first | done | omega | contradiction) | ((try simp at h); simp [hbl])) | with_reducible refine And.intro ?_ ?_ | with_reducible exact okay_rfl rfl | with_reducible assumption | (refine W_cond rfl (fun h => ?_) (fun h => ?_) <;> first | (exfalso; simp at h; first | done | omega | contradiction) | (exfalso; simp_all; done) | (try simp at h)) | omega)

theorem lBytes_v (c : Cur) (n : Int) (hc : c.good) (hn : n ≤ 5000) : Valid PP GG F_S_l01DrawBytes [.box c.o, .d (.int .i64 n)] (.own 0 1 (bytesD (lByteL c n.toNat).1)) [some (.box (lByteL c n.toNat).2.o), none] := by
  refine v_S_l01DrawBytes [.own 0 1 (bytesD (lByteL c n.toNat).1)] rfl rfl ?_
  repeat' (first | refine W_seq ?_ | refine W_skip ?_ | refine W_block ?_ | refine W_exit ?_ | refine pick_pos rfl ?_ | refine pick_neg rfl ?_ | ((first | refine W_regP fun K hK => ?_ | refine W_regPD fun K hK => ?_ | refine W_ret ?_); simp [Fin]) | (with_reducible refine hK _ ?_; clear hK K) | (with_reducible refine goL_split (fun h => ?_) (fun h => ?_) <;> first | (exfalso; simp at h; first | done | omega | contradiction) | ((try simp at h); simp)) | with_reducible refine And.intro ?_ ?_ | with_reducible exact okay_rfl rfl | with_reducible assumption | (refine W_cond rfl (fun h => ?_) (fun h => ?_) <;> first | (exfalso; simp at h; first | done | omega | contradiction) | (exfalso; simp_all; done) | (try simp at h)) | omega)
  refine W_loop (fun m st => ∃ i : Nat, m = n.toNat - i ∧ i ≤ n.toNat ∧
    st = ⟨[], [(0, .ptr 0 0), (1, .d (.int .i64 n)), (5, .sl 1), (6, .d (.int .i64 i))], [(0, .box [.d (.slc 1 (bytesD (lByteL c i).2.b)), .d (.int .i64 (lByteL c i).2.i), .d (.int .i64 (lByteL c i).2.h)]), (1, .arr 0 0 1 (bytesD (lByteL c i).1))], 2⟩) _ ⟨0, rfl, by omega, ?_⟩ ?_
  · simp [gc, closeN, liveA, gcV, gcO, renA, renAs, renO, namesAs, namesA, namesO, posn, lByteL, bytesD]
  rintro m st ⟨i, rfl, hi, rfl⟩
  by_cases hlt : (i : Int) < n
  rotate_left
  · have hie : n.toNat = i := by omega
    rw [hie]
    generalize lByteL c i = s at *
    repeat' (first | refine W_seq ?_ | refine W_skip ?_ | refine W_block ?_ | refine W_exit ?_ | refine pick_pos rfl ?_ | refine pick_neg rfl ?_ | ((first | refine W_regP fun K hK => ?_ | refine W_regPD fun K hK => ?_ | refine W_ret ?_); simp [Fin, hlt]) | (with_reducible refine hK _ ?_; clear hK K) | (with_reducible refine goL_split (fun h => ?_) (fun h => ?_) <;> first | (exfalso; simp at h; first | done | omega | contradiction) | ((try simp at h); simp [hlt])) | with_reducible refine And.intro ?_ ?_ | with_reducible exact okay_rfl rfl | with_reducible assumption | (refine W_cond rfl (fun h => ?_) (fun h => ?_) <;> first | (exfalso; simp at h; first | done | omega | contradiction) | (exfalso; simp_all; done) | (try simp at h)) | omega)
  have hs : lByteL c (i + 1) = ((lByteL c i).1 ++ [UInt8.ofNat (lPick (lBelow (lBelow (lByteL c i).2 256).2 256).2 0 [0, 1, 255, 128, (lBelow (lByteL c i).2 256).1, (lBelow (lBelow (lByteL c i).2 256).2 256).1]).1.toNat], (lPick (lBelow (lBelow (lByteL c i).2 256).2 256).2 0 [0, 1, 255, 128, (lBelow (lByteL c i).2 256).1, (lBelow (lBelow (lByteL c i).2 256).2 256).1]).2) := rfl
  have g1 := lByteL_good hc i
  have hlen := lByteL_len c i
  generalize lByteL c i = s at *
  have c1 := lBelow_v (GG := GG) s.2 256 g1
  have g2 := lBelow_good g1 256
  have r2 := lBelow_rng s.2 (n := 256) (by omega)
  generalize lBelow s.2 256 = x at *
  have c2 := lBelow_v (GG := GG) x.2 256 g2
  have g3 := lBelow_good g2 256
  have r3 := lBelow_rng x.2 (n := 256) (by omega)
  generalize lBelow x.2 256 = y at *
  have c3 := lPickI_v (GG := GG) y.2 [0, 1, 255, 128, x.1, y.1] g3 (by simp) (by simp)
  have r4 := lByte_pick y.2 x.1 y.1 (by omega) (by omega)
  generalize lPick y.2 0 [0, 1, 255, 128, x.1, y.1] = p at *
  simp only [intsD, List.map_cons, List.map_nil] at c3
  have hw : IntKind.u8.wrap p.1 = ((UInt8.ofNat p.1.toNat).toNat : Nat) := by
    rw [UInt8.toNat_ofNat', Nat.mod_eq_of_lt (by omega)]
    rw [show ((p.1.toNat : Nat) : Int) = p.1 by omega]
    rw [IntKind.wrap_u8]
    omega
  have hbs : bytesD (s.1 ++ [UInt8.ofNat p.1.toNat]) = bytesD s.1 ++ [[.int .u8 ((UInt8.ofNat p.1.toNat).toNat : Nat)]] := by simp [bytesD]
  generalize UInt8.ofNat p.1.toNat = pb at *
  have hbl := bytesD_len s.1
  repeat' (first | refine W_seq ?_ | refine W_skip ?_ | refine W_block ?_ | refine W_exit ?_ | refine pick_pos rfl ?_ | refine pick_neg rfl ?_ | ((first | refine W_regP fun K hK => ?_ | refine W_regPD fun K hK => ?_ | refine W_ret ?_ | with_reducible refine callQ (c1) ?_ | with_reducible refine callQ (c2) ?_ | with_reducible refine callQ (c3) ?_); simp [Fin, hlt, hw, limit, hbl]) | (with_reducible refine hK _ ?_; clear hK K) | (with_reducible refine goL_split (fun h => ?_) (fun h => ?_) <;> first | (exfalso; simp at h; first | done | omega | contradiction) | ((try simp at h); simp [hlt, hw, limit, hbl])) | with_reducible refine And.intro ?_ ?_ | with_reducible exact okay_rfl rfl | with_reducible assumption | (refine W_cond rfl (fun h => ?_) (fun h => ?_) <;> first | (exfalso; simp at h; first | done | omega | contradiction) | (exfalso; simp_all; done) | (try simp at h)) | omega)
  refine ⟨n.toNat - (i + 1), by omega, i + 1, rfl, by omega, ?_⟩
  rw [hs]
  dsimp only
  rw [hbs]
  simp [gc, closeN, liveA, gcV, gcO, renA, renAs, renO, namesAs, namesA, namesO, posn]
  exact wrap_id (by omega) (by omega)

theorem lPath_v (c : Cur) (hc : c.good) : Valid PP GG F_S_l01DrawPath [.box c.o] (.d (.str (lPath c).1)) [some (.box (lPath c).2.o)] := by
  refine v_S_l01DrawPath [.d (.str (lPath c).1)] rfl rfl ?_
  have hr : lPath c = lPathL ((lSeg c).1, (lPathN (lSeg c).2).2) (lPathN (lSeg c).2).1.toNat := rfl
  have c1 := lSeg_v (GG := GG) c hc
  have g1 := lSeg_good hc
  have l1 := lSeg_len c
  generalize lSeg c = s at *
  have hN : lPathN s.2 = if (lOnce (lBelow s.2 4).2 20).1 = true then (7 + (lBelow (lOnce (lBelow s.2 4).2 20).2 2).1, (lBelow (lOnce (lBelow s.2 4).2 20).2 2).2) else ((lBelow s.2 4).1, (lOnce (lBelow s.2 4).2 20).2) := rfl
  have rN := lPathN_rng s.2
  have gN := lPathN_good g1
  have c2 := lBelow_v (GG := GG) s.2 4 g1
  have g2 := lBelow_good g1 4
  have r2 := lBelow_rng s.2 (n := 4) (by omega)
  generalize lBelow s.2 4 = n at *
  have c3 := lOnce_v (GG := GG) n.2 20 g2
  have g3 := lOnce_good g2 20
  generalize lOnce n.2 20 = o at *
  obtain ⟨o1, o2⟩ := o
  dsimp only at g3 hN
  have c4 := lBelow_v (GG := GG) o2 2 g3
  have r4 := lBelow_rng o2 (n := 2) (by omega)
  generalize lBelow o2 2 = m at *
  rw [hr]
  clear hr
  generalize lPathN s.2 = N at *
  obtain ⟨N1, N2⟩ := N
  dsimp only at rN gN ⊢
  refine W_seq (?_)
  apply W_regS
  · intro K hK
    simp
    repeat' (first | with_reducible exact hK | (with_reducible refine goL_split (fun _ => ?_) (fun _ => ?_) <;> simp) | with_reducible refine And.intro ?_ ?_ | with_reducible exact okay_rfl rfl | with_reducible assumption | omega)
  refine W_seq (?_)
  apply W_regS
  · intro K hK
    simp
    repeat' (first | with_reducible exact hK | (with_reducible refine callQ (c1) ?_; simp) | (with_reducible refine goL_split (fun _ => ?_) (fun _ => ?_) <;> simp) | with_reducible refine And.intro ?_ ?_ | with_reducible exact okay_rfl rfl | with_reducible assumption | omega)
  refine W_seq (?_)
  apply W_regS
  · intro K hK
    simp
    repeat' (first | with_reducible exact hK | (with_reducible refine callQ (c2) ?_; simp) | (with_reducible refine goL_split (fun _ => ?_) (fun _ => ?_) <;> simp) | with_reducible refine And.intro ?_ ?_ | with_reducible exact okay_rfl rfl | with_reducible assumption | omega)
  refine W_cut [0, 3, 4] (fun st' => st' = ⟨[], [(0, .ptr 0 0), (3, .d (.str s.1)), (4, .d (.int .i64 N1))], [(0, .box [.d (.slc 1 (bytesD N2.b)), .d (.int .i64 N2.i), .d (.int .i64 N2.h)])], 1⟩) ?_ ?_
  · cases o1
    · rw [if_neg (by simp)] at hN
      injection hN with e1 e2
      subst e1 e2
      clear c4
      repeat' (first | refine W_seq ?_ | refine W_skip ?_ | refine W_block ?_ | refine W_exit ?_ | refine pick_pos rfl ?_ | refine pick_neg rfl ?_ | ((first | refine W_regP fun K hK => ?_ | refine W_regPD fun K hK => ?_ | refine W_ret ?_ | with_reducible refine callQ (c3) ?_); simp [Fin]) | (with_reducible refine hK _ ?_; clear hK K) | (with_reducible refine goL_split (fun h => ?_) (fun h => ?_) <;> first | (exfalso; simp at h; first | done | omega | contradiction) | ((try simp at h); simp)) | with_reducible refine And.intro ?_ ?_ | with_reducible exact okay_rfl rfl | with_reducible assumption | (refine W_cond rfl (fun h => ?_) (fun h => ?_) <;> first | (exfalso; simp at h; first | done | omega | contradiction) | (exfalso; simp_all; done) | (try simp at h)) | omega)
      simp [gc, closeN, liveA, gcV, gcO, renA, renAs, renO, namesAs, namesA, namesO, posn]
    · rw [if_pos rfl] at hN
      injection hN with e1 e2
      subst e1 e2
      have hw : IntKind.i64.wrap (7 + m.1) = 7 + m.1 := wrap_id (by omega) (by omega)
      repeat' (first | refine W_seq ?_ | refine W_skip ?_ | refine W_block ?_ | refine W_exit ?_ | refine pick_pos rfl ?_ | refine pick_neg rfl ?_ | ((first | refine W_regP fun K hK => ?_ | refine W_regPD fun K hK => ?_ | refine W_ret ?_ | with_reducible refine callQ (c3) ?_ | with_reducible refine callQ (c4) ?_); simp [Fin, hw]) | (with_reducible refine hK _ ?_; clear hK K) | (with_reducible refine goL_split (fun h => ?_) (fun h => ?_) <;> first | (exfalso; simp at h; first | done | omega | contradiction) | ((try simp at h); simp [hw])) | with_reducible refine And.intro ?_ ?_ | with_reducible exact okay_rfl rfl | with_reducible assumption | (refine W_cond rfl (fun h => ?_) (fun h => ?_) <;> first | (exfalso; simp at h; first | done | omega | contradiction) | (exfalso; simp_all; done) | (try simp at h)) | omega)
      simp [gc, closeN, liveA, gcV, gcO, renA, renAs, renO, namesAs, namesA, namesO, posn]
  rintro st rfl
  clear hN c1 c2 c3 c4
  repeat' (first | refine W_seq ?_ | refine W_skip ?_ | refine W_block ?_ | refine W_exit ?_ | refine pick_pos rfl ?_ | refine pick_neg rfl ?_ | ((first | refine W_regP fun K hK => ?_ | refine W_regPD fun K hK => ?_ | refine W_ret ?_); simp [Fin]) | (with_reducible refine hK _ ?_; clear hK K) | (with_reducible refine goL_split (fun h => ?_) (fun h => ?_) <;> first | (exfalso; simp at h; first | done | omega | contradiction) | ((try simp at h); simp)) | with_reducible refine And.intro ?_ ?_ | with_reducible exact okay_rfl rfl | with_reducible assumption | (refine W_cond rfl (fun h => ?_) (fun h => ?_) <;> first | (exfalso; simp at h; first | done | omega | contradiction) | (exfalso; simp_all; done) | (try simp at h)) | omega)
  refine W_loop (fun k st => ∃ i : Nat, k = N1.toNat - i ∧ i ≤ N1.toNat ∧
    st = ⟨[], [(0, .ptr 0 0), (3, .d (.str (lPathL (s.1, N2) i).1)), (4, .d (.int .i64 N1)), (5, .d (.int .i64 i))], [(0, .box [.d (.slc 1 (bytesD (lPathL (s.1, N2) i).2.b)), .d (.int .i64 (lPathL (s.1, N2) i).2.i), .d (.int .i64 (lPathL (s.1, N2) i).2.h)])], 1⟩) _ ⟨0, rfl, by omega, ?_⟩ ?_
  · simp [gc, closeN, liveA, gcV, gcO, renA, renAs, renO, namesAs, namesA, namesO, posn, lPathL]
  rintro k st ⟨i, rfl, hi, rfl⟩
  by_cases hlt : (i : Int) < N1
  rotate_left
  · have hie : N1.toNat = i := by omega
    rw [hie]
    generalize lPathL (s.1, N2) i = L at *
    repeat' (first | refine W_seq ?_ | refine W_skip ?_ | refine W_block ?_ | refine W_exit ?_ | refine pick_pos rfl ?_ | refine pick_neg rfl ?_ | ((first | refine W_regP fun K hK => ?_ | refine W_regPD fun K hK => ?_ | refine W_ret ?_); simp [Fin, hlt]) | (with_reducible refine hK _ ?_; clear hK K) | (with_reducible refine goL_split (fun h => ?_) (fun h => ?_) <;> first | (exfalso; simp at h; first | done | omega | contradiction) | ((try simp at h); simp [hlt])) | with_reducible refine And.intro ?_ ?_ | with_reducible exact okay_rfl rfl | with_reducible assumption | (refine W_cond rfl (fun h => ?_) (fun h => ?_) <;> first | (exfalso; simp at h; first | done | omega | contradiction) | (exfalso; simp_all; done) | (try simp at h)) | omega)
  have hs : lPathL (s.1, N2) (i + 1) = ((lPathL (s.1, N2) i).1 ++ [47] ++ (lSeg (lPathL (s.1, N2) i).2).1, (lSeg (lPathL (s.1, N2) i).2).2) := rfl
  have gL := lPathL_good (s := (s.1, N2)) gN i
  have hL := lPathL_len (s.1, N2) i
  generalize lPathL (s.1, N2) i = L at *
  have c5 := lSeg_v (GG := GG) L.2 gL
  have l5 := lSeg_len L.2
  generalize lSeg L.2 = S at *
  dsimp only at hL
  repeat' (first | refine W_seq ?_ | refine W_skip ?_ | refine W_block ?_ | refine W_exit ?_ | refine pick_pos rfl ?_ | refine pick_neg rfl ?_ | ((first | refine W_regP fun K hK => ?_ | refine W_regPD fun K hK => ?_ | refine W_ret ?_ | with_reducible refine callQ (c5) ?_); simp [Fin, hlt, maxStr]) | (with_reducible refine hK _ ?_; clear hK K) | (with_reducible refine goL_split (fun h => ?_) (fun h => ?_) <;> first | (exfalso; simp at h; first | done | omega | contradiction) | ((try simp at h); simp [hlt, maxStr])) | with_reducible refine And.intro ?_ ?_ | with_reducible exact okay_rfl rfl | with_reducible assumption | (refine W_cond rfl (fun h => ?_) (fun h => ?_) <;> first | (exfalso; simp at h; first | done | omega | contradiction) | (exfalso; simp_all; done) | (try simp at h)) | omega)
  refine ⟨N1.toNat - (i + 1), by omega, i + 1, rfl, by omega, ?_⟩
  rw [hs]
  simp [gc, closeN, liveA, gcV, gcO, renA, renAs, renO, namesAs, namesA, namesO, posn]
  exact wrap_id (by omega) (by omega)

theorem lNote_v (c : Cur) (a : Int) (hc : c.good) : Valid PP GG F_S_l15DrawNote [.box c.o, .d (.int .i64 a)] (.agg (lNote c a).1.o) [some (.box (lNote c a).2.o), none] := by
  refine v_S_l15DrawNote [.agg (lNote c a).1.o] rfl rfl ?_
  have hr : lNote c a = if (lOnce (lNoteA c a).2 25).1 = true then lNoteB (lNoteA c a).1 (lOnce (lNoteA c a).2 25).2 else ((lNoteA c a).1, (lOnce (lNoteA c a).2 25).2) := rfl
  have hA : lNoteA c a = ({ fSeq := 0, fAt := a, fWho := (lBelow c 9).1, fWhat := (lPick (lBelow c 9).2 [] wha1).1, fPath := (lPick (lPick (lBelow c 9).2 [] wha1).2 [] pat1).1, fCode := (lBelow (lPick (lPick (lBelow c 9).2 [] wha1).2 [] pat1).2 8).1, fSum := 0 }, (lBelow (lPick (lPick (lBelow c 9).2 [] wha1).2 [] pat1).2 8).2) := rfl
  have g1 := lBelow_good hc 9
  have c1 := lBelow_v (GG := GG) c 9 hc
  generalize lBelow c 9 = w at *
  have g2 := lPick_good g1 ([] : List UInt8) wha1
  have c2 := lPickT_v (GG := GG) w.2 wha1 g1 (by decide) (by decide)
  generalize lPick w.2 [] wha1 = t at *
  have g3 := lPick_good g2 ([] : List UInt8) pat1
  have c3 := lPickT_v (GG := GG) t.2 pat1 g2 (by decide) (by decide)
  generalize lPick t.2 [] pat1 = p at *
  have g4 := lBelow_good g3 8
  have c4 := lBelow_v (GG := GG) p.2 8 g3
  generalize lBelow p.2 8 = k at *
  rw [hA] at hr
  dsimp only at hr
  have g5 := lOnce_good g4 25
  have c5 := lOnce_v (GG := GG) k.2 25 g4
  generalize lOnce k.2 25 = o at *
  simp only [strsD, wha1, List.map_cons, List.map_nil] at c2
  simp only [strsD, pat1, List.map_cons, List.map_nil] at c3
  clear hA
  obtain ⟨o1, o2⟩ := o
  cases o1
  · rw [if_neg (by simp)] at hr
    rw [hr]
    clear hr
    repeat' (first | refine W_seq ?_ | refine W_skip ?_ | refine W_block ?_ | refine W_exit ?_ | refine pick_pos rfl ?_ | refine pick_neg rfl ?_ | ((first | refine W_regP fun K hK => ?_ | refine W_regPD fun K hK => ?_ | refine W_ret ?_ | with_reducible refine callQ (c1) ?_ | with_reducible refine callQ (c2) ?_ | with_reducible refine callQ (c3) ?_ | with_reducible refine callQ (c4) ?_ | with_reducible refine callQ (c5) ?_); simp [Fin]) | (with_reducible refine hK _ ?_; clear hK K) | (with_reducible refine goL_split (fun h => ?_) (fun h => ?_) <;> first | (exfalso; simp at h; first | done | omega | contradiction) | ((try simp at h); simp)) | with_reducible refine And.intro ?_ ?_ | with_reducible exact okay_rfl rfl | with_reducible assumption | (refine W_cond rfl (fun h => ?_) (fun h => ?_) <;> first | (exfalso; simp at h; first | done | omega | contradiction) | (exfalso; simp_all; done) | (try simp at h)) | omega)
  rw [if_pos rfl] at hr
  dsimp only at g5
  have c6 := lBelow_v (GG := GG) o2 5 g5
  have g6 := lBelow_good g5 5
  have r6 := lBelow_rng o2 (n := 5) (by omega)
  unfold lNoteB at hr
  dsimp only at hr
  generalize lBelow o2 5 = s at *
  by_cases h0 : s.1 = 0
  · rw [if_pos h0] at hr
    have c7 := lPickI_v (GG := GG) s.2 [-1, 1000000000, 1000000001, 0] g6 (by decide) (by decide)
    generalize lPick s.2 0 [-1, 1000000000, 1000000001, 0] = q at *
    simp only [intsD, List.map_cons, List.map_nil] at c7
    rw [hr]
    clear hr
    repeat' (first | refine W_seq ?_ | refine W_skip ?_ | refine W_block ?_ | refine W_exit ?_ | refine pick_pos rfl ?_ | refine pick_neg rfl ?_ | ((first | refine W_regP fun K hK => ?_ | refine W_regPD fun K hK => ?_ | refine W_ret ?_ | with_reducible refine callQ (c1) ?_ | with_reducible refine callQ (c2) ?_ | with_reducible refine callQ (c3) ?_ | with_reducible refine callQ (c4) ?_ | with_reducible refine callQ (c5) ?_ | with_reducible refine callQ (c6) ?_ | with_reducible refine callQ (c7) ?_); simp [Fin, h0]) | (with_reducible refine hK _ ?_; clear hK K) | (with_reducible refine goL_split (fun h => ?_) (fun h => ?_) <;> first | (exfalso; simp at h; first | done | omega | contradiction) | ((try simp at h); simp [h0])) | with_reducible refine And.intro ?_ ?_ | with_reducible exact okay_rfl rfl | with_reducible assumption | (refine W_cond rfl (fun h => ?_) (fun h => ?_) <;> first | (exfalso; simp at h; first | done | omega | contradiction) | (exfalso; simp_all; done) | (try simp at h)) | omega)
  rw [if_neg h0] at hr
  by_cases h1 : s.1 = 1
  · rw [if_pos h1] at hr
    have c7 := lPickI_v (GG := GG) s.2 [-1, 1000000000, 1000000001] g6 (by decide) (by decide)
    generalize lPick s.2 0 [-1, 1000000000, 1000000001] = q at *
    simp only [intsD, List.map_cons, List.map_nil] at c7
    rw [hr]
    clear hr
    repeat' (first | refine W_seq ?_ | refine W_skip ?_ | refine W_block ?_ | refine W_exit ?_ | refine pick_pos rfl ?_ | refine pick_neg rfl ?_ | ((first | refine W_regP fun K hK => ?_ | refine W_regPD fun K hK => ?_ | refine W_ret ?_ | with_reducible refine callQ (c1) ?_ | with_reducible refine callQ (c2) ?_ | with_reducible refine callQ (c3) ?_ | with_reducible refine callQ (c4) ?_ | with_reducible refine callQ (c5) ?_ | with_reducible refine callQ (c6) ?_ | with_reducible refine callQ (c7) ?_); simp [Fin, h1]) | (with_reducible refine hK _ ?_; clear hK K) | (with_reducible refine goL_split (fun h => ?_) (fun h => ?_) <;> first | (exfalso; simp at h; first | done | omega | contradiction) | ((try simp at h); simp [h1])) | with_reducible refine And.intro ?_ ?_ | with_reducible exact okay_rfl rfl | with_reducible assumption | (refine W_cond rfl (fun h => ?_) (fun h => ?_) <;> first | (exfalso; simp at h; first | done | omega | contradiction) | (exfalso; simp_all; done) | (try simp at h)) | omega)
  rw [if_neg h1] at hr
  by_cases h2 : s.1 = 2
  · rw [if_pos h2] at hr
    have c7 := lPickT_v (GG := GG) s.2 wha2 g6 (by decide) (by decide)
    generalize lPick s.2 [] wha2 = q at *
    simp only [strsD, wha2, List.map_cons, List.map_nil] at c7
    rw [hr]
    clear hr
    repeat' (first | refine W_seq ?_ | refine W_skip ?_ | refine W_block ?_ | refine W_exit ?_ | refine pick_pos rfl ?_ | refine pick_neg rfl ?_ | ((first | refine W_regP fun K hK => ?_ | refine W_regPD fun K hK => ?_ | refine W_ret ?_ | with_reducible refine callQ (c1) ?_ | with_reducible refine callQ (c2) ?_ | with_reducible refine callQ (c3) ?_ | with_reducible refine callQ (c4) ?_ | with_reducible refine callQ (c5) ?_ | with_reducible refine callQ (c6) ?_ | with_reducible refine callQ (c7) ?_); simp [Fin, h2]) | (with_reducible refine hK _ ?_; clear hK K) | (with_reducible refine goL_split (fun h => ?_) (fun h => ?_) <;> first | (exfalso; simp at h; first | done | omega | contradiction) | ((try simp at h); simp [h2])) | with_reducible refine And.intro ?_ ?_ | with_reducible exact okay_rfl rfl | with_reducible assumption | (refine W_cond rfl (fun h => ?_) (fun h => ?_) <;> first | (exfalso; simp at h; first | done | omega | contradiction) | (exfalso; simp_all; done) | (try simp at h)) | omega)
  rw [if_neg h2] at hr
  by_cases h3 : s.1 = 3
  · rw [if_pos h3] at hr
    have c7 := lPath_v (GG := GG) s.2 g6
    generalize lPath s.2 = q at *
    rw [hr]
    clear hr
    repeat' (first | refine W_seq ?_ | refine W_skip ?_ | refine W_block ?_ | refine W_exit ?_ | refine pick_pos rfl ?_ | refine pick_neg rfl ?_ | ((first | refine W_regP fun K hK => ?_ | refine W_regPD fun K hK => ?_ | refine W_ret ?_ | with_reducible refine callQ (c1) ?_ | with_reducible refine callQ (c2) ?_ | with_reducible refine callQ (c3) ?_ | with_reducible refine callQ (c4) ?_ | with_reducible refine callQ (c5) ?_ | with_reducible refine callQ (c6) ?_ | with_reducible refine callQ (c7) ?_); simp [Fin, h3]) | (with_reducible refine hK _ ?_; clear hK K) | (with_reducible refine goL_split (fun h => ?_) (fun h => ?_) <;> first | (exfalso; simp at h; first | done | omega | contradiction) | ((try simp at h); simp [h3])) | with_reducible refine And.intro ?_ ?_ | with_reducible exact okay_rfl rfl | with_reducible assumption | (refine W_cond rfl (fun h => ?_) (fun h => ?_) <;> first | (exfalso; simp at h; first | done | omega | contradiction) | (exfalso; simp_all; done) | (try simp at h)) | omega)
  rw [if_neg h3] at hr
  have h4 : s.1 = 4 := by omega
  rw [if_pos h4] at hr
  have c7 := lPickI_v (GG := GG) s.2 [-1, 99, 100] g6 (by decide) (by decide)
  generalize lPick s.2 0 [-1, 99, 100] = q at *
  simp only [intsD, List.map_cons, List.map_nil] at c7
  rw [hr]
  clear hr
  repeat' (first | refine W_seq ?_ | refine W_skip ?_ | refine W_block ?_ | refine W_exit ?_ | refine pick_pos rfl ?_ | refine pick_neg rfl ?_ | ((first | refine W_regP fun K hK => ?_ | refine W_regPD fun K hK => ?_ | refine W_ret ?_ | with_reducible refine callQ (c1) ?_ | with_reducible refine callQ (c2) ?_ | with_reducible refine callQ (c3) ?_ | with_reducible refine callQ (c4) ?_ | with_reducible refine callQ (c5) ?_ | with_reducible refine callQ (c6) ?_ | with_reducible refine callQ (c7) ?_); simp [Fin, h4]) | (with_reducible refine hK _ ?_; clear hK K) | (with_reducible refine goL_split (fun h => ?_) (fun h => ?_) <;> first | (exfalso; simp at h; first | done | omega | contradiction) | ((try simp at h); simp [h4])) | with_reducible refine And.intro ?_ ?_ | with_reducible exact okay_rfl rfl | with_reducible assumption | (refine W_cond rfl (fun h => ?_) (fun h => ?_) <;> first | (exfalso; simp at h; first | done | omega | contradiction) | (exfalso; simp_all; done) | (try simp at h)) | omega)

theorem lChain_v (c : Cur) (n : Int) (hc : c.good) (hn : n ≤ 122) : Valid PP GG F_S_l15DrawChain [.box c.o, .d (.int .i64 n)] (.agg (lChain c n).1.o) [some (.box (lChain c n).2.o), none] := by
  refine v_S_l15DrawChain [.agg (lChain c n).1.o] rfl rfl ?_
  have hr : lChain c n = lChC (lChB (chRun (lCh0 c) n.toNat).ch (chRun (lCh0 c) n.toNat).cu).1 (lChB (chRun (lCh0 c) n.toNat).ch (chRun (lCh0 c) n.toNat).cu).2 := rfl
  rw [hr]
  clear hr
  have h0 : lCh0 c = ⟨{ fFirst := (lPick (lBelow c 16777216).2 0 [0, 0, 7, (lBelow c 16777216).1]).1, fSalt := (lGood (lPick (lBelow c 16777216).2 0 [0, 0, 7, (lBelow c 16777216).1]).2).1, fNotes := [] }, 0, (lGood (lPick (lBelow c 16777216).2 0 [0, 0, 7, (lBelow c 16777216).1]).2).2⟩ := rfl
  have hrun := chRun_ok (lCh0_ok hc)
  generalize hS0 : lCh0 c = S0 at *
  have c1 := lBelow_v (GG := GG) c 16777216 hc
  have g1 := lBelow_good hc 16777216
  generalize lBelow c 16777216 = b at *
  have c2 := lPickI_v (GG := GG) b.2 [0, 0, 7, b.1] g1 (by simp) (by simp)
  have g2 := lPick_good g1 (0 : Int) [0, 0, 7, b.1]
  generalize lPick b.2 0 [0, 0, 7, b.1] = f at *
  simp only [intsD, List.map_cons, List.map_nil] at c2
  have c3 := lGood_v (GG := GG) f.2 g2
  generalize lGood f.2 = d at *
  have e0 : chRun S0 0 = ⟨{ fFirst := f.1, fSalt := d.1, fNotes := [] }, 0, d.2⟩ := h0
  clear hS0 h0 g1 g2
  refine W_seq (?_)
  apply W_regS
  · intro K hK
    simp
    repeat' (first | with_reducible exact hK | (with_reducible refine goL_split (fun _ => ?_) (fun _ => ?_) <;> simp) | with_reducible refine And.intro ?_ ?_ | with_reducible exact okay_rfl rfl | with_reducible assumption | omega)
  refine W_seq (?_)
  apply W_regS
  · intro K hK
    simp
    repeat' (first | with_reducible exact hK | (with_reducible refine callQ (c1) ?_; simp) | (with_reducible refine callQ (c2) ?_; simp) | (with_reducible refine callQ (c3) ?_; simp) | (with_reducible refine goL_split (fun _ => ?_) (fun _ => ?_) <;> simp) | with_reducible refine And.intro ?_ ?_ | with_reducible exact okay_rfl rfl | with_reducible assumption | omega)
  refine W_nilP 5 2 rfl rfl rfl ?_
  clear c1 c2 c3
  repeat' (first | refine W_seq ?_ | refine W_skip ?_ | refine W_block ?_ | refine W_exit ?_ | refine pick_pos rfl ?_ | refine pick_neg rfl ?_ | ((first | refine W_regP fun K hK => ?_ | refine W_regPD fun K hK => ?_ | refine W_ret ?_); simp [Fin]) | (with_reducible refine hK _ ?_; clear hK K) | (with_reducible refine goL_split (fun h => ?_) (fun h => ?_) <;> first | (exfalso; simp at h; first | done | omega | contradiction) | ((try simp at h); simp)) | with_reducible refine And.intro ?_ ?_ | with_reducible exact okay_rfl rfl | with_reducible assumption | (refine W_cond rfl (fun h => ?_) (fun h => ?_) <;> first | (exfalso; simp at h; first | done | omega | contradiction) | (exfalso; simp_all; done) | (try simp at h)) | omega)
  refine W_loop (fun k st => ∃ i : Nat, k = n.toNat - i ∧ i ≤ n.toNat ∧
    st = ⟨[], [(0, .ptr 0 0), (1, .d (.int .i64 n)), (4, .ptr 1 0), (5, .ptr 2 0), (6, .d (.int .i64 (chRun S0 i).at_)), (7, .d (.int .i64 i))], [(0, .box [.d (.slc 1 (bytesD (chRun S0 i).cu.b)), .d (.int .i64 (chRun S0 i).cu.i), .d (.int .i64 (chRun S0 i).cu.h)]), (1, .box [.d (.int .i64 0), .d (.int .i64 0), .nil 0 7]), (2, .box [.d (.int .i64 (chRun S0 i).ch.fFirst), .d (.int .i64 (chRun S0 i).ch.fSalt), .sl 3]), (3, .arr 0 0 7 (rNote (chRun S0 i).ch.fNotes))], 4⟩) _ ⟨0, rfl, by omega, ?_⟩ ?_
  · rw [e0]
    simp [gc, closeN, liveA, gcV, gcO, renA, renAs, renO, namesAs, namesA, namesO, posn, rNote]
  rintro k st ⟨i, rfl, hi, rfl⟩
  clear e0
  by_cases hlt : (i : Int) < n
  · obtain ⟨q1, q2, q3, q4⟩ := hrun i (by omega)
    have hs : chRun S0 (i + 1) = chStep (chRun S0 i) := rfl
    generalize chRun S0 i = S at *
    have hst : chStep S = ⟨addC S.ch (lNote (lBelow S.cu 3).2 (S.at_ + (lBelow S.cu 3).1)).1, S.at_ + (lBelow S.cu 3).1, (lNote (lBelow S.cu 3).2 (S.at_ + (lBelow S.cu 3).1)).2⟩ := rfl
    have c4 := lBelow_v (GG := GG) S.cu 3 q1
    have r4 := lBelow_rng S.cu (n := 3) (by omega)
    have g4 := lBelow_good q1 3
    generalize lBelow S.cu 3 = p at *
    have c5 := lNote_v (GG := GG) p.2 (S.at_ + p.1) g4
    obtain ⟨n1, n2⟩ := lNote_small p.2 (S.at_ + p.1)
    obtain ⟨n3, n4⟩ := small_ok n1 n2 ⟨by omega, by omega⟩
    generalize lNote p.2 (S.at_ + p.1) = N at *
    have c6 := s_AddNote_ok (GG := GG) S.ch N.1 q3 n3 (by omega)
    have hi6 := ind_rNote (addC S.ch N.1).fNotes
    have hw : IntKind.i64.wrap (S.at_ + p.1) = S.at_ + p.1 := wrap_id (by omega) (by omega)
    obtain ⟨SC, Sa, Su⟩ := S
    dsimp only at *
    generalize addB SC N.1 = AB at *
    generalize addC SC N.1 = AC at *
    clear n1 n2 n3 n4 r4 q3 q4
    repeat' (first | refine W_seq ?_ | refine W_skip ?_ | refine W_block ?_ | refine W_exit ?_ | refine pick_pos rfl ?_ | refine pick_neg rfl ?_ | ((first | refine W_regP fun K hK => ?_ | refine W_regPD fun K hK => ?_ | refine W_ret ?_ | with_reducible refine callQ (c4) ?_ | with_reducible refine callQ (c5) ?_ | with_reducible refine callQ (c6) ?_); simp [Fin, hlt, hw]) | (with_reducible refine hK _ ?_; clear hK K) | (with_reducible refine goL_split (fun h => ?_) (fun h => ?_) <;> first | (exfalso; simp at h; first | done | omega | contradiction) | ((try simp at h); simp [hlt, hw])) | with_reducible refine And.intro ?_ ?_ | with_reducible exact okay_rfl rfl | with_reducible assumption | (refine W_cond rfl (fun h => ?_) (fun h => ?_) <;> first | (exfalso; simp at h; first | done | omega | contradiction) | (exfalso; simp_all; done) | (try simp at h)) | omega)
    refine ⟨n.toNat - (i + 1), by omega, i + 1, rfl, by omega, ?_⟩
    rw [hs, hst]
    simp [gc, closeN, liveA, gcV, gcO, renA, renAs, renO, namesAs, namesA, namesO, posn]
    exact wrap_id (by omega) (by omega)
  have hie : n.toNat = i := by omega
  rw [hie]
  obtain ⟨q1, q2, q3, q4⟩ := hrun i (by omega)
  generalize chRun S0 i = S at *
  obtain ⟨⟨SF, SS, l⟩, Sa, u⟩ := S
  dsimp only at *
  clear q2 q3 hrun hie
  have hl1 : l.length ≤ 230 * i := by have : (GChain.mk SF SS l).cost = l.length + sumBy GNote.cost l := rfl; omega
  have hll : l.length ≤ 1048576 := by omega
  clear q4 hl1 hi
  have hB : lChB ⟨SF, SS, l⟩ u = if (lOnce u 5).1 = true ∧ 0 < l.length then
      (bendN ⟨SF, SS, l⟩ (lBelow (lOnce u 5).2 (l.length : Nat)).1.toNat (lBelow (lBelow (lOnce u 5).2 (l.length : Nat)).2 6).1 (lPick (lBelow (lBelow (lOnce u 5).2 (l.length : Nat)).2 6).2 0 [-1, 0]).1,
        if (lBelow (lBelow (lOnce u 5).2 (l.length : Nat)).2 6).1 = 5 then (lPick (lBelow (lBelow (lOnce u 5).2 (l.length : Nat)).2 6).2 0 [-1, 0]).2 else (lBelow (lBelow (lOnce u 5).2 (l.length : Nat)).2 6).2)
    else (⟨SF, SS, l⟩, (lOnce u 5).2) := rfl
  have hiN := ind_rNote l
  have c4 := lOnce_v (GG := GG) u 5 q1
  have g4 := lOnce_good q1 5
  generalize lOnce u 5 = o at *
  obtain ⟨o1, o2⟩ := o
  dsimp only at *
  have hC : ∀ (d : GChain) (v : Cur), lChC d v = ((if (lOnce v 30).1 = true then { d with fFirst := -1 } else d), (lOnce v 30).2) := fun _ _ => rfl
  by_cases hon : o1 = true ∧ 0 < l.length
  rotate_left
  · rw [if_neg hon] at hB
    rw [hB, hC]
    clear hB hC
    dsimp only
    have c5 := lOnce_v (GG := GG) o2 30 g4
    generalize lOnce o2 30 = p at *
    obtain ⟨p1, p2⟩ := p
    cases o1
    · cases p1
      · repeat' (first | refine W_seq ?_ | refine W_skip ?_ | refine W_block ?_ | refine W_exit ?_ | refine pick_pos rfl ?_ | refine pick_neg rfl ?_ | ((first | refine W_regP fun K hK => ?_ | refine W_regPD fun K hK => ?_ | refine W_ret ?_ | with_reducible refine callQ (c4) ?_ | with_reducible refine callQ (c5) ?_); simp [Fin, hlt]) | (with_reducible refine hK _ ?_; clear hK K) | (with_reducible refine goL_split (fun h => ?_) (fun h => ?_) <;> first | (exfalso; simp at h; first | done | omega | contradiction) | ((try simp at h); simp [hlt])) | with_reducible refine And.intro ?_ ?_ | with_reducible exact okay_rfl rfl | with_reducible assumption | (refine W_cond rfl (fun h => ?_) (fun h => ?_) <;> first | (exfalso; simp at h; first | done | omega | contradiction) | (exfalso; simp_all; done) | (try simp at h)) | omega)
      · repeat' (first | refine W_seq ?_ | refine W_skip ?_ | refine W_block ?_ | refine W_exit ?_ | refine pick_pos rfl ?_ | refine pick_neg rfl ?_ | ((first | refine W_regP fun K hK => ?_ | refine W_regPD fun K hK => ?_ | refine W_ret ?_ | with_reducible refine callQ (c4) ?_ | with_reducible refine callQ (c5) ?_); simp [Fin, hlt]) | (with_reducible refine hK _ ?_; clear hK K) | (with_reducible refine goL_split (fun h => ?_) (fun h => ?_) <;> first | (exfalso; simp at h; first | done | omega | contradiction) | ((try simp at h); simp [hlt])) | with_reducible refine And.intro ?_ ?_ | with_reducible exact okay_rfl rfl | with_reducible assumption | (refine W_cond rfl (fun h => ?_) (fun h => ?_) <;> first | (exfalso; simp at h; first | done | omega | contradiction) | (exfalso; simp_all; done) | (try simp at h)) | omega)
    · have hl0 : l = [] := by cases l with | nil => rfl | cons a t => exact absurd ⟨rfl, by simp⟩ hon
      subst hl0
      cases p1
      · repeat' (first | refine W_seq ?_ | refine W_skip ?_ | refine W_block ?_ | refine W_exit ?_ | refine pick_pos rfl ?_ | refine pick_neg rfl ?_ | ((first | refine W_regP fun K hK => ?_ | refine W_regPD fun K hK => ?_ | refine W_ret ?_ | with_reducible refine callQ (c4) ?_ | with_reducible refine callQ (c5) ?_); simp [Fin, hlt]) | (with_reducible refine hK _ ?_; clear hK K) | (with_reducible refine goL_split (fun h => ?_) (fun h => ?_) <;> first | (exfalso; simp at h; first | done | omega | contradiction) | ((try simp at h); simp [hlt])) | with_reducible refine And.intro ?_ ?_ | with_reducible exact okay_rfl rfl | with_reducible assumption | (refine W_cond rfl (fun h => ?_) (fun h => ?_) <;> first | (exfalso; simp at h; first | done | omega | contradiction) | (exfalso; simp_all; done) | (try simp at h)) | omega)
      · repeat' (first | refine W_seq ?_ | refine W_skip ?_ | refine W_block ?_ | refine W_exit ?_ | refine pick_pos rfl ?_ | refine pick_neg rfl ?_ | ((first | refine W_regP fun K hK => ?_ | refine W_regPD fun K hK => ?_ | refine W_ret ?_ | with_reducible refine callQ (c4) ?_ | with_reducible refine callQ (c5) ?_); simp [Fin, hlt]) | (with_reducible refine hK _ ?_; clear hK K) | (with_reducible refine goL_split (fun h => ?_) (fun h => ?_) <;> first | (exfalso; simp at h; first | done | omega | contradiction) | ((try simp at h); simp [hlt])) | with_reducible refine And.intro ?_ ?_ | with_reducible exact okay_rfl rfl | with_reducible assumption | (refine W_cond rfl (fun h => ?_) (fun h => ?_) <;> first | (exfalso; simp at h; first | done | omega | contradiction) | (exfalso; simp_all; done) | (try simp at h)) | omega)
  obtain ⟨rfl, hlp⟩ := hon
  rw [if_pos ⟨rfl, hlp⟩] at hB
  have hgl : ((0 : Int) < (l.length : Nat)) = True := by simp; omega
  have c5 := lBelow_v (GG := GG) o2 (l.length : Nat) g4
  have g5 := lBelow_good g4 (l.length : Nat)
  have r5 := lBelow_rng o2 (n := (l.length : Nat)) (by omega)
  generalize lBelow o2 (l.length : Nat) = ii at *
  obtain ⟨ix, i2⟩ := ii
  dsimp only at *
  obtain ⟨j, rfl⟩ := Int.eq_ofNat_of_zero_le r5.1
  rw [Int.toNat_natCast] at hB
  have hj : j < l.length := by omega
  have hg := List.getElem?_eq_getElem hj
  generalize l[j] = x at hg
  have c6 := lBelow_v (GG := GG) i2 6 g5
  have g6 := lBelow_good g5 6
  have r6 := lBelow_rng i2 (n := 6) (by omega)
  generalize lBelow i2 6 = kk at *
  obtain ⟨k1, k2⟩ := kk
  dsimp only at *
  by_cases e0 : k1 = 0
  · subst e0
    have hb : bendN ⟨SF, SS, l⟩ j 0 (lPick k2 0 [-1, 0]).1 = ⟨SF, SS, l.set j { x with fCode := IntKind.i64.wrap (x.fCode + 1) }⟩ := by
      unfold bendN setN; simp [hg]
    rw [hb, if_neg (by omega)] at hB
    rw [hB, hC]
    clear hB hC hb r5 r6
    dsimp only
    have c7 := lOnce_v (GG := GG) k2 30 g6
    generalize lOnce k2 30 = p at *
    obtain ⟨p1, p2⟩ := p
    obtain ⟨x1, x2, x3, x4, x5, x6, x7⟩ := x
    have hset : (rNote l).set j (GNote.row ⟨x1, x2, x3, x4, x5, IntKind.i64.wrap (x6 + 1), x7⟩) = rNote (l.set j ⟨x1, x2, x3, x4, x5, IntKind.i64.wrap (x6 + 1), x7⟩) := by unfold rNote; rw [List.map_set]
    cases p1
    · repeat' (first | refine W_seq ?_ | refine W_skip ?_ | refine W_block ?_ | refine W_exit ?_ | refine pick_pos rfl ?_ | refine pick_neg rfl ?_ | ((first | refine W_regP fun K hK => ?_ | refine W_regPD fun K hK => ?_ | refine W_ret ?_ | with_reducible refine callQ (c4) ?_ | with_reducible refine callQ (c5) ?_ | with_reducible refine callQ (c6) ?_ | with_reducible refine callQ (c7) ?_); simp [Fin, hlt, hgl, hg]) | (with_reducible refine hK _ ?_; clear hK K) | (with_reducible refine goL_split (fun h => ?_) (fun h => ?_) <;> first | (exfalso; simp at h; first | done | omega | contradiction) | ((try simp at h); simp [hlt, hgl, hg])) | with_reducible refine And.intro ?_ ?_ | with_reducible exact okay_rfl rfl | with_reducible assumption | (refine W_cond rfl (fun h => ?_) (fun h => ?_) <;> first | (exfalso; simp at h; first | done | omega | contradiction) | (exfalso; simp_all; done) | (try simp at h)) | omega)
      all_goals first | exact hj | exact hset
    · repeat' (first | refine W_seq ?_ | refine W_skip ?_ | refine W_block ?_ | refine W_exit ?_ | refine pick_pos rfl ?_ | refine pick_neg rfl ?_ | ((first | refine W_regP fun K hK => ?_ | refine W_regPD fun K hK => ?_ | refine W_ret ?_ | with_reducible refine callQ (c4) ?_ | with_reducible refine callQ (c5) ?_ | with_reducible refine callQ (c6) ?_ | with_reducible refine callQ (c7) ?_); simp [Fin, hlt, hgl, hg]) | (with_reducible refine hK _ ?_; clear hK K) | (with_reducible refine goL_split (fun h => ?_) (fun h => ?_) <;> first | (exfalso; simp at h; first | done | omega | contradiction) | ((try simp at h); simp [hlt, hgl, hg])) | with_reducible refine And.intro ?_ ?_ | with_reducible exact okay_rfl rfl | with_reducible assumption | (refine W_cond rfl (fun h => ?_) (fun h => ?_) <;> first | (exfalso; simp at h; first | done | omega | contradiction) | (exfalso; simp_all; done) | (try simp at h)) | omega)
      all_goals first | exact hj | exact hset
  by_cases e1 : k1 = 1
  · subst e1
    have hb : bendN ⟨SF, SS, l⟩ j 1 (lPick k2 0 [-1, 0]).1 = ⟨SF, SS, l.set j { x with fSum := IntKind.i64.wrap (x.fSum + 1) }⟩ := by
      unfold bendN setN; simp [hg]
    rw [hb, if_neg (by omega)] at hB
    rw [hB, hC]
    clear hB hC hb r5 r6
    dsimp only
    have c7 := lOnce_v (GG := GG) k2 30 g6
    generalize lOnce k2 30 = p at *
    obtain ⟨p1, p2⟩ := p
    obtain ⟨x1, x2, x3, x4, x5, x6, x7⟩ := x
    have hset : (rNote l).set j (GNote.row ⟨x1, x2, x3, x4, x5, x6, IntKind.i64.wrap (x7 + 1)⟩) = rNote (l.set j ⟨x1, x2, x3, x4, x5, x6, IntKind.i64.wrap (x7 + 1)⟩) := by unfold rNote; rw [List.map_set]
    cases p1
    · repeat' (first | refine W_seq ?_ | refine W_skip ?_ | refine W_block ?_ | refine W_exit ?_ | refine pick_pos rfl ?_ | refine pick_neg rfl ?_ | ((first | refine W_regP fun K hK => ?_ | refine W_regPD fun K hK => ?_ | refine W_ret ?_ | with_reducible refine callQ (c4) ?_ | with_reducible refine callQ (c5) ?_ | with_reducible refine callQ (c6) ?_ | with_reducible refine callQ (c7) ?_); simp [Fin, hlt, hgl, hg]) | (with_reducible refine hK _ ?_; clear hK K) | (with_reducible refine goL_split (fun h => ?_) (fun h => ?_) <;> first | (exfalso; simp at h; first | done | omega | contradiction) | ((try simp at h); simp [hlt, hgl, hg])) | with_reducible refine And.intro ?_ ?_ | with_reducible exact okay_rfl rfl | with_reducible assumption | (refine W_cond rfl (fun h => ?_) (fun h => ?_) <;> first | (exfalso; simp at h; first | done | omega | contradiction) | (exfalso; simp_all; done) | (try simp at h)) | omega)
      all_goals first | exact hj | exact hset
    · repeat' (first | refine W_seq ?_ | refine W_skip ?_ | refine W_block ?_ | refine W_exit ?_ | refine pick_pos rfl ?_ | refine pick_neg rfl ?_ | ((first | refine W_regP fun K hK => ?_ | refine W_regPD fun K hK => ?_ | refine W_ret ?_ | with_reducible refine callQ (c4) ?_ | with_reducible refine callQ (c5) ?_ | with_reducible refine callQ (c6) ?_ | with_reducible refine callQ (c7) ?_); simp [Fin, hlt, hgl, hg]) | (with_reducible refine hK _ ?_; clear hK K) | (with_reducible refine goL_split (fun h => ?_) (fun h => ?_) <;> first | (exfalso; simp at h; first | done | omega | contradiction) | ((try simp at h); simp [hlt, hgl, hg])) | with_reducible refine And.intro ?_ ?_ | with_reducible exact okay_rfl rfl | with_reducible assumption | (refine W_cond rfl (fun h => ?_) (fun h => ?_) <;> first | (exfalso; simp at h; first | done | omega | contradiction) | (exfalso; simp_all; done) | (try simp at h)) | omega)
      all_goals first | exact hj | exact hset
  by_cases e2 : k1 = 2
  · subst e2
    have hb : bendN ⟨SF, SS, l⟩ j 2 (lPick k2 0 [-1, 0]).1 = ⟨SF, SS, l.set j { x with fWhat := [111, 116, 104, 101, 114] }⟩ := by
      unfold bendN setN; simp [hg]
    rw [hb, if_neg (by omega)] at hB
    rw [hB, hC]
    clear hB hC hb r5 r6
    dsimp only
    have c7 := lOnce_v (GG := GG) k2 30 g6
    generalize lOnce k2 30 = p at *
    obtain ⟨p1, p2⟩ := p
    obtain ⟨x1, x2, x3, x4, x5, x6, x7⟩ := x
    have hset : (rNote l).set j (GNote.row ⟨x1, x2, x3, [111, 116, 104, 101, 114], x5, x6, x7⟩) = rNote (l.set j ⟨x1, x2, x3, [111, 116, 104, 101, 114], x5, x6, x7⟩) := by unfold rNote; rw [List.map_set]
    cases p1
    · repeat' (first | refine W_seq ?_ | refine W_skip ?_ | refine W_block ?_ | refine W_exit ?_ | refine pick_pos rfl ?_ | refine pick_neg rfl ?_ | ((first | refine W_regP fun K hK => ?_ | refine W_regPD fun K hK => ?_ | refine W_ret ?_ | with_reducible refine callQ (c4) ?_ | with_reducible refine callQ (c5) ?_ | with_reducible refine callQ (c6) ?_ | with_reducible refine callQ (c7) ?_); simp [Fin, hlt, hgl, hg]) | (with_reducible refine hK _ ?_; clear hK K) | (with_reducible refine goL_split (fun h => ?_) (fun h => ?_) <;> first | (exfalso; simp at h; first | done | omega | contradiction) | ((try simp at h); simp [hlt, hgl, hg])) | with_reducible refine And.intro ?_ ?_ | with_reducible exact okay_rfl rfl | with_reducible assumption | (refine W_cond rfl (fun h => ?_) (fun h => ?_) <;> first | (exfalso; simp at h; first | done | omega | contradiction) | (exfalso; simp_all; done) | (try simp at h)) | omega)
      all_goals first | exact hj | exact hset
    · repeat' (first | refine W_seq ?_ | refine W_skip ?_ | refine W_block ?_ | refine W_exit ?_ | refine pick_pos rfl ?_ | refine pick_neg rfl ?_ | ((first | refine W_regP fun K hK => ?_ | refine W_regPD fun K hK => ?_ | refine W_ret ?_ | with_reducible refine callQ (c4) ?_ | with_reducible refine callQ (c5) ?_ | with_reducible refine callQ (c6) ?_ | with_reducible refine callQ (c7) ?_); simp [Fin, hlt, hgl, hg]) | (with_reducible refine hK _ ?_; clear hK K) | (with_reducible refine goL_split (fun h => ?_) (fun h => ?_) <;> first | (exfalso; simp at h; first | done | omega | contradiction) | ((try simp at h); simp [hlt, hgl, hg])) | with_reducible refine And.intro ?_ ?_ | with_reducible exact okay_rfl rfl | with_reducible assumption | (refine W_cond rfl (fun h => ?_) (fun h => ?_) <;> first | (exfalso; simp at h; first | done | omega | contradiction) | (exfalso; simp_all; done) | (try simp at h)) | omega)
      all_goals first | exact hj | exact hset
  by_cases e3 : k1 = 3
  · subst e3
    have hb : bendN ⟨SF, SS, l⟩ j 3 (lPick k2 0 [-1, 0]).1 = ⟨SF, SS, l.tail⟩ := by
      unfold bendN; simp
    rw [hb, if_neg (by omega)] at hB
    rw [hB, hC]
    clear hB hC hb r5 r6
    dsimp only
    have c7 := lOnce_v (GG := GG) k2 30 g6
    generalize lOnce k2 30 = p at *
    obtain ⟨p1, p2⟩ := p
    have h1l : (1 ≤ l.length) = True := by simp; omega
    have hdr : (List.take l.length (rNote l)).tail = rNote l.tail := by rw [← rNote_len l, List.take_length]; unfold rNote; rw [List.map_tail]
    cases p1
    · repeat' (first | refine W_seq ?_ | refine W_skip ?_ | refine W_block ?_ | refine W_exit ?_ | refine pick_pos rfl ?_ | refine pick_neg rfl ?_ | ((first | refine W_regP fun K hK => ?_ | refine W_regPD fun K hK => ?_ | refine W_ret ?_ | with_reducible refine callQ (c4) ?_ | with_reducible refine callQ (c5) ?_ | with_reducible refine callQ (c6) ?_ | with_reducible refine callQ (c7) ?_); simp [Fin, hlt, hgl, h1l, hdr]) | (with_reducible refine hK _ ?_; clear hK K) | (with_reducible refine goL_split (fun h => ?_) (fun h => ?_) <;> first | (exfalso; simp at h; first | done | omega | contradiction) | ((try simp at h); simp [hlt, hgl, h1l, hdr])) | with_reducible refine And.intro ?_ ?_ | with_reducible exact okay_rfl rfl | with_reducible assumption | (refine W_cond rfl (fun h => ?_) (fun h => ?_) <;> first | (exfalso; simp at h; first | done | omega | contradiction) | (exfalso; simp_all; done) | (try simp at h)) | omega)
    · repeat' (first | refine W_seq ?_ | refine W_skip ?_ | refine W_block ?_ | refine W_exit ?_ | refine pick_pos rfl ?_ | refine pick_neg rfl ?_ | ((first | refine W_regP fun K hK => ?_ | refine W_regPD fun K hK => ?_ | refine W_ret ?_ | with_reducible refine callQ (c4) ?_ | with_reducible refine callQ (c5) ?_ | with_reducible refine callQ (c6) ?_ | with_reducible refine callQ (c7) ?_); simp [Fin, hlt, hgl, h1l, hdr]) | (with_reducible refine hK _ ?_; clear hK K) | (with_reducible refine goL_split (fun h => ?_) (fun h => ?_) <;> first | (exfalso; simp at h; first | done | omega | contradiction) | ((try simp at h); simp [hlt, hgl, h1l, hdr])) | with_reducible refine And.intro ?_ ?_ | with_reducible exact okay_rfl rfl | with_reducible assumption | (refine W_cond rfl (fun h => ?_) (fun h => ?_) <;> first | (exfalso; simp at h; first | done | omega | contradiction) | (exfalso; simp_all; done) | (try simp at h)) | omega)
  by_cases e4 : k1 = 4
  · subst e4
    have hb : bendN ⟨SF, SS, l⟩ j 4 (lPick k2 0 [-1, 0]).1 = ⟨SF, SS, l.set j { x with fSeq := IntKind.i64.wrap (x.fSeq + 1) }⟩ := by
      unfold bendN setN; simp [hg]
    rw [hb, if_neg (by omega)] at hB
    rw [hB, hC]
    clear hB hC hb r5 r6
    dsimp only
    have c7 := lOnce_v (GG := GG) k2 30 g6
    generalize lOnce k2 30 = p at *
    obtain ⟨p1, p2⟩ := p
    obtain ⟨x1, x2, x3, x4, x5, x6, x7⟩ := x
    have hset : (rNote l).set j (GNote.row ⟨IntKind.i64.wrap (x1 + 1), x2, x3, x4, x5, x6, x7⟩) = rNote (l.set j ⟨IntKind.i64.wrap (x1 + 1), x2, x3, x4, x5, x6, x7⟩) := by unfold rNote; rw [List.map_set]
    cases p1
    · repeat' (first | refine W_seq ?_ | refine W_skip ?_ | refine W_block ?_ | refine W_exit ?_ | refine pick_pos rfl ?_ | refine pick_neg rfl ?_ | ((first | refine W_regP fun K hK => ?_ | refine W_regPD fun K hK => ?_ | refine W_ret ?_ | with_reducible refine callQ (c4) ?_ | with_reducible refine callQ (c5) ?_ | with_reducible refine callQ (c6) ?_ | with_reducible refine callQ (c7) ?_); simp [Fin, hlt, hgl, hg]) | (with_reducible refine hK _ ?_; clear hK K) | (with_reducible refine goL_split (fun h => ?_) (fun h => ?_) <;> first | (exfalso; simp at h; first | done | omega | contradiction) | ((try simp at h); simp [hlt, hgl, hg])) | with_reducible refine And.intro ?_ ?_ | with_reducible exact okay_rfl rfl | with_reducible assumption | (refine W_cond rfl (fun h => ?_) (fun h => ?_) <;> first | (exfalso; simp at h; first | done | omega | contradiction) | (exfalso; simp_all; done) | (try simp at h)) | omega)
      all_goals first | exact hj | exact hset
    · repeat' (first | refine W_seq ?_ | refine W_skip ?_ | refine W_block ?_ | refine W_exit ?_ | refine pick_pos rfl ?_ | refine pick_neg rfl ?_ | ((first | refine W_regP fun K hK => ?_ | refine W_regPD fun K hK => ?_ | refine W_ret ?_ | with_reducible refine callQ (c4) ?_ | with_reducible refine callQ (c5) ?_ | with_reducible refine callQ (c6) ?_ | with_reducible refine callQ (c7) ?_); simp [Fin, hlt, hgl, hg]) | (with_reducible refine hK _ ?_; clear hK K) | (with_reducible refine goL_split (fun h => ?_) (fun h => ?_) <;> first | (exfalso; simp at h; first | done | omega | contradiction) | ((try simp at h); simp [hlt, hgl, hg])) | with_reducible refine And.intro ?_ ?_ | with_reducible exact okay_rfl rfl | with_reducible assumption | (refine W_cond rfl (fun h => ?_) (fun h => ?_) <;> first | (exfalso; simp at h; first | done | omega | contradiction) | (exfalso; simp_all; done) | (try simp at h)) | omega)
      all_goals first | exact hj | exact hset
  have e5 : k1 = 5 := by omega
  subst e5
  have c8 := lPickI_v (GG := GG) k2 [-1, 0] g6 (by simp) (by simp)
  have g8 := lPick_good g6 (0 : Int) [-1, 0]
  generalize lPick k2 0 [-1, 0] = q at *
  simp only [intsD, List.map_cons, List.map_nil] at c8
  have hb : bendN ⟨SF, SS, l⟩ j 5 q.1 = ⟨SF, SS, l.set j { x with fAt := q.1 }⟩ := by
    unfold bendN setN; simp [hg]
  rw [hb, if_pos rfl] at hB
  rw [hB, hC]
  clear hB hC hb r5 r6
  dsimp only
  have c9 := lOnce_v (GG := GG) q.2 30 g8
  generalize lOnce q.2 30 = p at *
  obtain ⟨p1, p2⟩ := p
  obtain ⟨q1, q2⟩ := q
  obtain ⟨x1, x2, x3, x4, x5, x6, x7⟩ := x
  have hset : (rNote l).set j (GNote.row ⟨x1, q1, x3, x4, x5, x6, x7⟩) = rNote (l.set j ⟨x1, q1, x3, x4, x5, x6, x7⟩) := by unfold rNote; rw [List.map_set]
  cases p1
  · repeat' (first | refine W_seq ?_ | refine W_skip ?_ | refine W_block ?_ | refine W_exit ?_ | refine pick_pos rfl ?_ | refine pick_neg rfl ?_ | ((first | refine W_regP fun K hK => ?_ | refine W_regPD fun K hK => ?_ | refine W_ret ?_ | with_reducible refine callQ (c4) ?_ | with_reducible refine callQ (c5) ?_ | with_reducible refine callQ (c6) ?_ | with_reducible refine callQ (c8) ?_ | with_reducible refine callQ (c9) ?_); simp [Fin, hlt, hgl, hg]) | (with_reducible refine hK _ ?_; clear hK K) | (with_reducible refine goL_split (fun h => ?_) (fun h => ?_) <;> first | (exfalso; simp at h; first | done | omega | contradiction) | ((try simp at h); simp [hlt, hgl, hg])) | with_reducible refine And.intro ?_ ?_ | with_reducible exact okay_rfl rfl | with_reducible assumption | (refine W_cond rfl (fun h => ?_) (fun h => ?_) <;> first | (exfalso; simp at h; first | done | omega | contradiction) | (exfalso; simp_all; done) | (try simp at h)) | omega)
    all_goals first | exact hj | exact hset
  · repeat' (first | refine W_seq ?_ | refine W_skip ?_ | refine W_block ?_ | refine W_exit ?_ | refine pick_pos rfl ?_ | refine pick_neg rfl ?_ | ((first | refine W_regP fun K hK => ?_ | refine W_regPD fun K hK => ?_ | refine W_ret ?_ | with_reducible refine callQ (c4) ?_ | with_reducible refine callQ (c5) ?_ | with_reducible refine callQ (c6) ?_ | with_reducible refine callQ (c8) ?_ | with_reducible refine callQ (c9) ?_); simp [Fin, hlt, hgl, hg]) | (with_reducible refine hK _ ?_; clear hK K) | (with_reducible refine goL_split (fun h => ?_) (fun h => ?_) <;> first | (exfalso; simp at h; first | done | omega | contradiction) | ((try simp at h); simp [hlt, hgl, hg])) | with_reducible refine And.intro ?_ ?_ | with_reducible exact okay_rfl rfl | with_reducible assumption | (refine W_cond rfl (fun h => ?_) (fun h => ?_) <;> first | (exfalso; simp at h; first | done | omega | contradiction) | (exfalso; simp_all; done) | (try simp at h)) | omega)
    all_goals first | exact hj | exact hset

theorem lOne_v [MaxL GG] (code : List UInt8) (h : code.length ≤ 1048577) : Valid PP GG F_S_l15DrawOne [.d (.slc 1 (bytesD code))] (.tup [.box (lOne code).2.o, .agg (lOne code).1.o]) [none] := by
  refine v_S_l15DrawOne [.box (lOne code).2.o, .agg (lOne code).1.o] rfl rfl ?_
  have hr : lOne code = if (lOnce (lBelow (lNew code) (lSize code.length 20)).2 30).1 = true then lChain (lBelow (lOnce (lBelow (lNew code) (lSize code.length 20)).2 30).2 4).2 (119 + (lBelow (lOnce (lBelow (lNew code) (lSize code.length 20)).2 30).2 4).1) else lChain (lOnce (lBelow (lNew code) (lSize code.length 20)).2 30).2 (lBelow (lNew code) (lSize code.length 20)).1 := rfl
  have c1 := lNew_v (GG := GG) code h
  have g1 := lNew_good h
  have c2 := lSize_v (GG := GG) code 20 h
  have z1 : lSize code.length 20 ≤ 20 := by unfold lSize; split <;> omega
  generalize lNew code = u at *
  generalize lSize code.length 20 = z at *
  have c3 := lBelow_v (GG := GG) u z g1
  have g2 := lBelow_good g1 z
  have r2 := lBelow_rng0 u z
  generalize lBelow u z = n at *
  have c4 := lOnce_v (GG := GG) n.2 30 g2
  have g3 := lOnce_good g2 30
  generalize lOnce n.2 30 = o at *
  obtain ⟨o1, o2⟩ := o
  dsimp only at g3
  have hn : n.1 ≤ 122 := by split at r2 <;> omega
  clear r2
  cases o1
  · rw [if_neg (by simp)] at hr
    have c5 := lChain_v (GG := GG) o2 n.1 g3 hn
    have hi := ind_rNote (lChain o2 n.1).1.fNotes
    rw [hr]
    clear hr
    generalize lChain o2 n.1 = k at *
    repeat' (first | refine W_seq ?_ | refine W_skip ?_ | refine W_block ?_ | refine W_exit ?_ | refine pick_pos rfl ?_ | refine pick_neg rfl ?_ | ((first | refine W_regP fun K hK => ?_ | refine W_regPD fun K hK => ?_ | refine W_ret ?_ | with_reducible refine callQ (c1) ?_ | with_reducible refine callQ (c2) ?_ | with_reducible refine callQ (c3) ?_ | with_reducible refine callQ (c4) ?_ | with_reducible refine callQ (c5) ?_); simp [Fin]) | (with_reducible refine hK _ ?_; clear hK K) | (with_reducible refine goL_split (fun h => ?_) (fun h => ?_) <;> first | (exfalso; simp at h; first | done | omega | contradiction) | ((try simp at h); simp)) | with_reducible refine And.intro ?_ ?_ | with_reducible exact okay_rfl rfl | with_reducible assumption | (refine W_cond rfl (fun h => ?_) (fun h => ?_) <;> first | (exfalso; simp at h; first | done | omega | contradiction) | (exfalso; simp_all; done) | (try simp at h)) | omega)
  · rw [if_pos rfl] at hr
    dsimp only at hr
    have c5 := lBelow_v (GG := GG) o2 4 g3
    have g4 := lBelow_good g3 4
    have r4 := lBelow_rng o2 (n := 4) (by omega)
    generalize lBelow o2 4 = m at *
    have c6 := lChain_v (GG := GG) m.2 (119 + m.1) g4 (by omega)
    have hi := ind_rNote (lChain m.2 (119 + m.1)).1.fNotes
    rw [hr]
    clear hr
    generalize lChain m.2 (119 + m.1) = k at *
    have hw : IntKind.i64.wrap (119 + m.1) = 119 + m.1 := wrap_id (by omega) (by omega)
    repeat' (first | refine W_seq ?_ | refine W_skip ?_ | refine W_block ?_ | refine W_exit ?_ | refine pick_pos rfl ?_ | refine pick_neg rfl ?_ | ((first | refine W_regP fun K hK => ?_ | refine W_regPD fun K hK => ?_ | refine W_ret ?_ | with_reducible refine callQ (c1) ?_ | with_reducible refine callQ (c2) ?_ | with_reducible refine callQ (c3) ?_ | with_reducible refine callQ (c4) ?_ | with_reducible refine callQ (c5) ?_ | with_reducible refine callQ (c6) ?_); simp [Fin, hw]) | (with_reducible refine hK _ ?_; clear hK K) | (with_reducible refine goL_split (fun h => ?_) (fun h => ?_) <;> first | (exfalso; simp at h; first | done | omega | contradiction) | ((try simp at h); simp [hw])) | with_reducible refine And.intro ?_ ?_ | with_reducible exact okay_rfl rfl | with_reducible assumption | (refine W_cond rfl (fun h => ?_) (fun h => ?_) <;> first | (exfalso; simp at h; first | done | omega | contradiction) | (exfalso; simp_all; done) | (try simp at h)) | omega)

theorem lSalted_v [MaxL GG] (code : List UInt8) (h : code.length ≤ 1048577) : Valid PP GG F_S_DrawSalted [.d (.slc 1 (bytesD code))] (.tup [.agg (lSalted code).1.o, .d (.str (lSalted code).2)]) [none] := by
  refine v_S_DrawSalted [.agg (lSalted code).1.o, .d (.str (lSalted code).2)] rfl rfl ?_
  have hr : lSalted code = if (lOnce (lByteL (lBelow (lOne code).2 (lSize code.length 30)).2 (lBelow (lOne code).2 (lSize code.length 30)).1.toNat).2 30).1 = true then ((lOne code).1, (lByteL (lBelow (lOnce (lByteL (lBelow (lOne code).2 (lSize code.length 30)).2 (lBelow (lOne code).2 (lSize code.length 30)).1.toNat).2 30).2 2).2 (2000 + (lBelow (lOnce (lByteL (lBelow (lOne code).2 (lSize code.length 30)).2 (lBelow (lOne code).2 (lSize code.length 30)).1.toNat).2 30).2 2).1).toNat).1) else ((lOne code).1, (lByteL (lBelow (lOne code).2 (lSize code.length 30)).2 (lBelow (lOne code).2 (lSize code.length 30)).1.toNat).1) := rfl
  have c1 := lOne_v (GG := GG) code h
  have g1 := (lOne_ok h).2.2
  have c2 := lSize_v (GG := GG) code 30 h
  have z1 : lSize code.length 30 ≤ 30 := by unfold lSize; split <;> omega
  generalize lOne code = u at *
  generalize lSize code.length 30 = z at *
  have c3 := lBelow_v (GG := GG) u.2 z g1
  have g2 := lBelow_good g1 z
  have r2 := lBelow_rng0 u.2 z
  generalize lBelow u.2 z = n at *
  have hn : n.1 ≤ 5000 := by split at r2 <;> omega
  clear r2
  have c4 := lBytes_v (GG := GG) n.2 n.1 g2 hn
  have g3 := lByteL_good g2 n.1.toNat
  generalize lByteL n.2 n.1.toNat = t at *
  have c5 := lOnce_v (GG := GG) t.2 30 g3
  have g4 := lOnce_good g3 30
  generalize lOnce t.2 30 = o at *
  obtain ⟨o1, o2⟩ := o
  dsimp only at g4
  have hi := ind_rNote u.1.fNotes
  have hso := fun l => strOf_bytesD l
  cases o1
  · rw [if_neg (by simp)] at hr
    rw [hr]
    clear hr
    repeat' (first | refine W_seq ?_ | refine W_skip ?_ | refine W_block ?_ | refine W_exit ?_ | refine pick_pos rfl ?_ | refine pick_neg rfl ?_ | ((first | refine W_regP fun K hK => ?_ | refine W_regPD fun K hK => ?_ | refine W_ret ?_ | with_reducible refine callQ (c1) ?_ | with_reducible refine callQ (c2) ?_ | with_reducible refine callQ (c3) ?_ | with_reducible refine callQ (c4) ?_ | with_reducible refine callQ (c5) ?_); simp [Fin, hso]) | (with_reducible refine hK _ ?_; clear hK K) | (with_reducible refine goL_split (fun h => ?_) (fun h => ?_) <;> first | (exfalso; simp at h; first | done | omega | contradiction) | ((try simp at h); simp [hso])) | with_reducible refine And.intro ?_ ?_ | with_reducible exact okay_rfl rfl | with_reducible assumption | (refine W_cond rfl (fun h => ?_) (fun h => ?_) <;> first | (exfalso; simp at h; first | done | omega | contradiction) | (exfalso; simp_all; done) | (try simp at h)) | omega)
  · rw [if_pos rfl] at hr
    dsimp only at hr
    have c6 := lBelow_v (GG := GG) o2 2 g4
    have g5 := lBelow_good g4 2
    have r5 := lBelow_rng o2 (n := 2) (by omega)
    generalize lBelow o2 2 = m at *
    have c7 := lBytes_v (GG := GG) m.2 (2000 + m.1) g5 (by omega)
    generalize lByteL m.2 (2000 + m.1).toNat = t2 at *
    rw [hr]
    clear hr
    have hw : IntKind.i64.wrap (2000 + m.1) = 2000 + m.1 := wrap_id (by omega) (by omega)
    repeat' (first | refine W_seq ?_ | refine W_skip ?_ | refine W_block ?_ | refine W_exit ?_ | refine pick_pos rfl ?_ | refine pick_neg rfl ?_ | ((first | refine W_regP fun K hK => ?_ | refine W_regPD fun K hK => ?_ | refine W_ret ?_ | with_reducible refine callQ (c1) ?_ | with_reducible refine callQ (c2) ?_ | with_reducible refine callQ (c3) ?_ | with_reducible refine callQ (c4) ?_ | with_reducible refine callQ (c5) ?_ | with_reducible refine callQ (c6) ?_ | with_reducible refine callQ (c7) ?_); simp [Fin, hso, hw]) | (with_reducible refine hK _ ?_; clear hK K) | (with_reducible refine goL_split (fun h => ?_) (fun h => ?_) <;> first | (exfalso; simp at h; first | done | omega | contradiction) | ((try simp at h); simp [hso, hw])) | with_reducible refine And.intro ?_ ?_ | with_reducible exact okay_rfl rfl | with_reducible assumption | (refine W_cond rfl (fun h => ?_) (fun h => ?_) <;> first | (exfalso; simp at h; first | done | omega | contradiction) | (exfalso; simp_all; done) | (try simp at h)) | omega)

theorem big_ok (code : List UInt8) (h : code.length ≤ maxLen) : Valid PP GG F_L_big [.d (.slc 1 (bytesD code))] (.d (.bool (decide (1048576 < code.length)))) [none] := by
  refine v_L_big [.d (.bool (decide (1048576 < code.length)))] rfl rfl ?_
  have hbl := bytesD_len code
  have hd : decide ((1048576 : Int) < (code.length : Nat)) = decide (1048576 < code.length) := decide_eq_decide.2 (by omega)
  repeat' (first | refine W_seq ?_ | refine W_skip ?_ | refine W_block ?_ | refine W_exit ?_ | refine pick_pos rfl ?_ | refine pick_neg rfl ?_ | ((first | refine W_regP fun K hK => ?_ | refine W_regPD fun K hK => ?_ | refine W_ret ?_); simp [Fin, hbl, hd]) | (with_reducible refine hK _ ?_; clear hK K) | (with_reducible refine goL_split (fun h => ?_) (fun h => ?_) <;> first | (exfalso; simp at h; first | done | omega | contradiction) | ((try simp at h); simp [hbl, hd])) | with_reducible refine And.intro ?_ ?_ | with_reducible exact okay_rfl rfl | with_reducible assumption | (refine W_cond rfl (fun h => ?_) (fun h => ?_) <;> first | (exfalso; simp at h; first | done | omega | contradiction) | (exfalso; simp_all; done) | (try simp at h)) | omega)

theorem saltV_ne {c : GChain} {t : List UInt8} (h : chainOk c = true) (ht : t.length ≤ 2000) : saltV c t ≠ [] := by
  unfold saltV
  rw [if_pos ⟨h, ht⟩]
  simp

theorem cntW_le (l : List GNote) (k : Nat) : cntW l k ≤ k * l.length := by
  induction k with
  | zero => exact Nat.le_of_eq (by simp [cntW])
  | succ k ih =>
    have := notesBy_len (k : Int) l
    rw [show cntW l (k + 1) = cntW l k + (notesBy (k : Int) l).length from rfl, Nat.succ_mul]
    omega

theorem cntB_le (l : List GNote) (k : Int) : cntB l k ≤ l.length := List.length_filter_le _ _

theorem law_SaltedFn [P10 GG] [MaxL GG] (code : List UInt8) (hl : code.length ≤ maxLen) : Valid PP GG F_L_FnSalted [.d (.slc 1 (bytesD code))] (.d (.bool true)) [none] := by
  refine v_L_FnSalted [.d (.bool true)] rfl rfl ?_
  have cb := big_ok (GG := GG) code hl
  by_cases hbig : 1048576 < code.length
  · rw [decide_eq_true hbig] at cb
    repeat' (first | refine W_seq ?_ | refine W_skip ?_ | refine W_block ?_ | refine W_exit ?_ | refine pick_pos rfl ?_ | refine pick_neg rfl ?_ | ((first | refine W_regP fun K hK => ?_ | refine W_regPD fun K hK => ?_ | refine W_ret ?_ | with_reducible refine callQ (cb) ?_); simp [Fin]) | (with_reducible refine hK _ ?_; clear hK K) | (with_reducible refine goL_split (fun h => ?_) (fun h => ?_) <;> first | (exfalso; simp at h; first | done | omega | contradiction) | ((try simp at h); simp)) | with_reducible refine And.intro ?_ ?_ | with_reducible exact okay_rfl rfl | with_reducible assumption | (refine W_cond rfl (fun h => ?_) (fun h => ?_) <;> first | (exfalso; simp at h; first | done | omega | contradiction) | (exfalso; simp_all; done) | (try simp at h)) | omega)
  rw [decide_eq_false hbig] at cb
  have cd := lSalted_v (GG := GG) code (by omega)
  obtain ⟨k1, k2, k3⟩ := lSalted_ok (code := code) (by omega)
  generalize lSalted code = s at *
  obtain ⟨K, t⟩ := s
  dsimp only at *
  have ck := s_ChainOk_ok (GG := GG) K (by omega)
  have hiN := ind_rNote K.fNotes
  cases hK : chainOk K with
  | false =>
    rw [hK] at ck
    repeat' (first | refine W_seq ?_ | refine W_skip ?_ | refine W_block ?_ | refine W_exit ?_ | refine pick_pos rfl ?_ | refine pick_neg rfl ?_ | ((first | refine W_regP fun K hK => ?_ | refine W_regPD fun K hK => ?_ | refine W_ret ?_ | with_reducible refine callQ (cb) ?_ | with_reducible refine callQ (cd) ?_ | with_reducible refine callQ (ck) ?_); simp [Fin]) | (with_reducible refine hK _ ?_; clear hK K) | (with_reducible refine goL_split (fun h => ?_) (fun h => ?_) <;> first | (exfalso; simp at h; first | done | omega | contradiction) | ((try simp at h); simp)) | with_reducible refine And.intro ?_ ?_ | with_reducible exact okay_rfl rfl | with_reducible assumption | (refine W_cond rfl (fun h => ?_) (fun h => ?_) <;> first | (exfalso; simp at h; first | done | omega | contradiction) | (exfalso; simp_all; done) | (try simp at h)) | omega)
  | true =>
  rw [hK] at ck
  by_cases ht : 2000 ≤ t.length
  · have ht2 : ((2000 : Int) ≤ (t.length : Nat)) = True := by simp; omega
    repeat' (first | refine W_seq ?_ | refine W_skip ?_ | refine W_block ?_ | refine W_exit ?_ | refine pick_pos rfl ?_ | refine pick_neg rfl ?_ | ((first | refine W_regP fun K hK => ?_ | refine W_regPD fun K hK => ?_ | refine W_ret ?_ | with_reducible refine callQ (cb) ?_ | with_reducible refine callQ (cd) ?_ | with_reducible refine callQ (ck) ?_); simp [Fin, ht2]) | (with_reducible refine hK _ ?_; clear hK K) | (with_reducible refine goL_split (fun h => ?_) (fun h => ?_) <;> first | (exfalso; simp at h; first | done | omega | contradiction) | ((try simp at h); simp [ht2])) | with_reducible refine And.intro ?_ ?_ | with_reducible exact okay_rfl rfl | with_reducible assumption | (refine W_cond rfl (fun h => ?_) (fun h => ?_) <;> first | (exfalso; simp at h; first | done | omega | contradiction) | (exfalso; simp_all; done) | (try simp at h)) | omega)
  have ht2 : ((2000 : Int) ≤ (t.length : Nat)) = False := by simp; omega
  have c1 := i_Salted_ok (GG := GG) K t (by omega) (by omega)
  have c2 := s_Salted_ok (GG := GG) K t (by omega) (by omega)
  have c3 := i_Salted_ok (GG := GG) K (t ++ [120]) (by omega) (by simp; omega)
  have c4 := s_Salted_ok (GG := GG) K (t ++ [120]) (by omega) (by simp; omega)
  have hA := saltV_ne (t := t) hK (by omega)
  have cn := fun w : Int => i_NotesOf_ok (GG := GG) K w (by omega)
  have hNV : ∀ w, notesV K w = notesBy w K.fNotes := fun w => by unfold notesV; rw [if_pos hK]
  have hlen := chain_len hK
  have hwho := chain_who hK
  have hseq := fun (x0 : GNote) (h0 : K.fNotes[0]? = some x0) => chain_seq hK h0
  have hok := k1.2.2.2
  have hrng := fun (i : Nat) (x : GNote) (hx : K.fNotes[i]? = some x) => note_range (chain_note hK hx)
  simp only [hNV] at cn
  clear hNV k1 k2 hK
  generalize saltV K t = A at *
  generalize saltV K (t ++ [120]) = B at *
  obtain ⟨F, S, l⟩ := K
  dsimp only at *
  have hA2 : (A == []) = false := by cases A with | nil => exact absurd rfl hA | cons a u => rfl
  have hAA : (A != A) = false := by simp
  have hBB : (B != B) = false := by simp
  refine W_seq (?_)
  apply W_regS
  · intro K hK
    simp
    repeat' (first | with_reducible exact hK | (with_reducible refine goL_split (fun _ => ?_) (fun _ => ?_) <;> simp) | with_reducible refine And.intro ?_ ?_ | with_reducible exact okay_rfl rfl | with_reducible assumption | omega)
  refine W_seq (W_seq ?_)
  apply W_regS
  · intro K hK
    simp
    repeat' (first | with_reducible exact hK | (with_reducible refine callQ (cb) ?_; simp) | (with_reducible refine goL_split (fun _ => ?_) (fun _ => ?_) <;> simp) | with_reducible refine And.intro ?_ ?_ | with_reducible exact okay_rfl rfl | with_reducible assumption | omega)
  refine W_cond rfl (fun h => by simp at h) (fun h => W_skip ?_)
  refine W_seq (?_)
  apply W_regS
  · intro K hK
    simp
    repeat' (first | with_reducible exact hK | (with_reducible refine callQ (cd) ?_; simp) | (with_reducible refine goL_split (fun _ => ?_) (fun _ => ?_) <;> simp) | with_reducible refine And.intro ?_ ?_ | with_reducible exact okay_rfl rfl | with_reducible assumption | omega)
  refine W_seq (W_seq ?_)
  apply W_regS
  · intro K hK
    simp [ht2]
    repeat' (first | with_reducible exact hK | (with_reducible refine callQ (ck) ?_; simp [ht2]) | (with_reducible refine goL_split (fun _ => ?_) (fun _ => ?_) <;> simp [ht2]) | with_reducible refine And.intro ?_ ?_ | with_reducible exact okay_rfl rfl | with_reducible assumption | omega)
  refine W_cond rfl (fun h => by simp at h) (fun h => W_skip ?_)
  refine W_seq (?_)
  apply W_regS
  · intro K hK
    simp
    repeat' (first | with_reducible exact hK | (with_reducible refine callQ (c1) ?_; simp) | (with_reducible refine goL_split (fun _ => ?_) (fun _ => ?_) <;> simp) | with_reducible refine And.intro ?_ ?_ | with_reducible exact okay_rfl rfl | with_reducible assumption | omega)
  refine W_cut [3] (fun st' => st' = ⟨[], [(3, .ptr 0 0)], [(0, .box [.d (.int .i64 F), .d (.int .i64 S), .sl 1]), (1, .arr 0 0 7 (rNote l))], 2⟩) ?_ ?_
  · by_cases hAB : A = B
    · have hq : (A == B) = true := by simpa using hAB
      subst hAB
      repeat' (first | refine W_seq ?_ | refine W_skip ?_ | refine W_block ?_ | refine W_exit ?_ | refine pick_pos rfl ?_ | refine pick_neg rfl ?_ | ((first | refine W_regP fun K hK => ?_ | refine W_regPD fun K hK => ?_ | refine W_ret ?_ | with_reducible refine callQ (c1) ?_ | with_reducible refine callQ (c2) ?_ | with_reducible refine callQ (c3) ?_ | with_reducible refine callQ (c4) ?_); simp [Fin, hA2, hAA, maxStr]) | (with_reducible refine hK _ ?_; clear hK K) | (with_reducible refine goL_split (fun h => ?_) (fun h => ?_) <;> first | (exfalso; simp at h; first | done | omega | contradiction) | ((try simp at h); simp [hA2, hAA, maxStr])) | with_reducible refine And.intro ?_ ?_ | with_reducible exact okay_rfl rfl | with_reducible assumption | (refine W_cond rfl (fun h => ?_) (fun h => ?_) <;> first | (exfalso; simp at h; first | done | omega | contradiction) | (exfalso; simp_all; done) | (try simp at h)) | omega)
      all_goals (try simp [gc, closeN, liveA, gcV, gcO, renA, renAs, renO, namesAs, namesA, namesO, posn])
    · have hq : (A == B) = false := by simpa using hAB
      repeat' (first | refine W_seq ?_ | refine W_skip ?_ | refine W_block ?_ | refine W_exit ?_ | refine pick_pos rfl ?_ | refine pick_neg rfl ?_ | ((first | refine W_regP fun K hK => ?_ | refine W_regPD fun K hK => ?_ | refine W_ret ?_ | with_reducible refine callQ (c1) ?_ | with_reducible refine callQ (c2) ?_ | with_reducible refine callQ (c3) ?_ | with_reducible refine callQ (c4) ?_); simp [Fin, hA2, hAA, hq, maxStr]) | (with_reducible refine hK _ ?_; clear hK K) | (with_reducible refine goL_split (fun h => ?_) (fun h => ?_) <;> first | (exfalso; simp at h; first | done | omega | contradiction) | ((try simp at h); simp [hA2, hAA, hq, maxStr])) | with_reducible refine And.intro ?_ ?_ | with_reducible exact okay_rfl rfl | with_reducible assumption | (refine W_cond rfl (fun h => ?_) (fun h => ?_) <;> first | (exfalso; simp at h; first | done | omega | contradiction) | (exfalso; simp_all; done) | (try simp at h)) | omega)
      all_goals (try simp [gc, closeN, liveA, gcV, gcO, renA, renAs, renO, namesAs, namesA, namesO, posn])
  rintro st rfl
  clear cb cd ck c1 c2 c3 c4 hA hA2 hAA hBB
  have hcle := cntW_le l
  have hceq := cnt_eq l hwho 9
  repeat' (first | refine W_seq ?_ | refine W_skip ?_ | refine W_block ?_ | refine W_exit ?_ | refine pick_pos rfl ?_ | refine pick_neg rfl ?_ | ((first | refine W_regP fun K hK => ?_ | refine W_regPD fun K hK => ?_ | refine W_ret ?_); simp [Fin]) | (with_reducible refine hK _ ?_; clear hK K) | (with_reducible refine goL_split (fun h => ?_) (fun h => ?_) <;> first | (exfalso; simp at h; first | done | omega | contradiction) | ((try simp at h); simp)) | with_reducible refine And.intro ?_ ?_ | with_reducible exact okay_rfl rfl | with_reducible assumption | (refine W_cond rfl (fun h => ?_) (fun h => ?_) <;> first | (exfalso; simp at h; first | done | omega | contradiction) | (exfalso; simp_all; done) | (try simp at h)) | omega)
  refine W_loop (fun m st => ∃ w : Nat, m = 9 - w ∧ w ≤ 9 ∧
    st = ⟨[], [(3, .ptr 0 0), (6, .d (.int .i64 (cntW l w : Nat))), (7, .d (.int .i64 w))], [(0, .box [.d (.int .i64 F), .d (.int .i64 S), .sl 1]), (1, .arr 0 0 7 (rNote l))], 2⟩) _ ⟨0, rfl, by omega, ?_⟩ ?_
  · simp [gc, closeN, liveA, gcV, gcO, renA, renAs, renO, namesAs, namesA, namesO, posn, cntW]
  rintro m st ⟨w, rfl, hw, rfl⟩
  have hc1 := hcle w
  have hwl : w * l.length ≤ 9 * 120 := Nat.mul_le_mul hw hlen
  by_cases hlt : w < 9
  · have cw := cn (w : Int)
    have hsu : cntW l (w + 1) = cntW l w + (notesBy (w : Int) l).length := rfl
    have hmem := fun s (hs : s ∈ notesBy (w : Int) l) => notesBy_mem hs
    have hLl := notesBy_len (w : Int) l
    generalize notesBy (w : Int) l = L at *
    generalize cntW l w = C at *
    have hiL := ind_ints L
    have hll := ints_len L
    repeat' (first | refine W_seq ?_ | refine W_skip ?_ | refine W_block ?_ | refine W_exit ?_ | refine pick_pos rfl ?_ | refine pick_neg rfl ?_ | ((first | refine W_regP fun K hK => ?_ | refine W_regPD fun K hK => ?_ | refine W_ret ?_ | with_reducible refine callQ (cw) ?_); simp [Fin]) | (with_reducible refine hK _ ?_; clear hK K) | (with_reducible refine goL_split (fun h => ?_) (fun h => ?_) <;> first | (exfalso; simp at h; first | done | omega | contradiction) | ((try simp at h); simp)) | with_reducible refine And.intro ?_ ?_ | with_reducible exact okay_rfl rfl | with_reducible assumption | (refine W_cond rfl (fun h => ?_) (fun h => ?_) <;> first | (exfalso; simp at h; first | done | omega | contradiction) | (exfalso; simp_all; done) | (try simp at h)) | omega)
    refine W_loop (fun m st => ∃ i : Nat, m = L.length - i ∧ i ≤ L.length ∧
      st = ⟨[], [(3, .ptr 0 0), (6, .d (.int .i64 (C : Nat))), (7, .d (.int .i64 w)), (8, .sl 1), (9, .d (.int .i64 i))], [(0, .box [.d (.int .i64 F), .d (.int .i64 S), .sl 2]), (1, .arr 0 0 1 (intsD L)), (2, .arr 0 0 7 (rNote l))], 3⟩) _ ⟨0, rfl, by omega, ?_⟩ ?_
    · simp [gc, closeN, liveA, gcV, gcO, renA, renAs, renO, namesAs, namesA, namesO, posn]
    rintro m st ⟨i, rfl, hi, rfl⟩
    by_cases hli : i < L.length
    · have hg := List.getElem?_eq_getElem hli
      have hm := List.getElem_mem hli
      generalize L[i] = s at hg hm
      obtain ⟨j, x, hx, hxw, hxs⟩ := hmem s hm
      have hjl := (List.getElem?_eq_some_iff.1 hx).1
      have h0l : 0 < l.length := by omega
      have hg0 := List.getElem?_eq_getElem h0l
      generalize l[0] = x0 at hg0
      have hs0 := hseq x0 hg0 j x hx
      have hr0 := hrng 0 x0 hg0
      have hr1 := hrng j x hx
      subst hxs
      have hwr : IntKind.i64.wrap (x.fSeq - x0.fSeq) = (j : Int) := by rw [wrap_id (by omega) (by omega)]; omega
      have hj2 : (((l.length : Nat) : Int) ≤ (j : Int)) = False := by simp; omega
      have hww : (x.fWho != (w : Int)) = false := by simpa using hxw
      clear hm hs0 hr0 hr1 hxw hmem hseq hrng hok
      obtain ⟨a1, a2, a3, a4, a5, a6, a7⟩ := x
      obtain ⟨b1, b2, b3, b4, b5, b6, b7⟩ := x0
      dsimp only at *
      repeat' (first | refine W_seq ?_ | refine W_skip ?_ | refine W_block ?_ | refine W_exit ?_ | refine pick_pos rfl ?_ | refine pick_neg rfl ?_ | ((first | refine W_regP fun K hK => ?_ | refine W_regPD fun K hK => ?_ | refine W_ret ?_); simp [Fin, ints_get, hg, hg0, hx, hwr, hj2, hww]) | (with_reducible refine hK _ ?_; clear hK K) | (with_reducible refine goL_split (fun h => ?_) (fun h => ?_) <;> first | (exfalso; simp at h; first | done | omega | contradiction) | ((try simp at h); simp [ints_get, hg, hg0, hx, hwr, hj2, hww])) | with_reducible refine And.intro ?_ ?_ | with_reducible exact okay_rfl rfl | with_reducible assumption | (refine W_cond rfl (fun h => ?_) (fun h => ?_) <;> first | (exfalso; simp at h; first | done | omega | contradiction) | (exfalso; simp_all; done) | (try simp at h)) | omega)
      refine ⟨L.length - (i + 1), by omega, i + 1, rfl, hli, ?_⟩
      simp [gc, closeN, liveA, gcV, gcO, renA, renAs, renO, namesAs, namesA, namesO, posn]
      exact wrap_id (by omega) (by omega)
    · have hie : i = L.length := by omega
      subst hie
      have hw6 : IntKind.i64.wrap ((C : Nat) + (L.length : Nat)) = ((C + L.length : Nat) : Int) := by rw [wrap_id (by omega) (by omega)]; omega
      repeat' (first | refine W_seq ?_ | refine W_skip ?_ | refine W_block ?_ | refine W_exit ?_ | refine pick_pos rfl ?_ | refine pick_neg rfl ?_ | ((first | refine W_regP fun K hK => ?_ | refine W_regPD fun K hK => ?_ | refine W_ret ?_); simp [Fin, hll, hw6]) | (with_reducible refine hK _ ?_; clear hK K) | (with_reducible refine goL_split (fun h => ?_) (fun h => ?_) <;> first | (exfalso; simp at h; first | done | omega | contradiction) | ((try simp at h); simp [hll, hw6])) | with_reducible refine And.intro ?_ ?_ | with_reducible exact okay_rfl rfl | with_reducible assumption | (refine W_cond rfl (fun h => ?_) (fun h => ?_) <;> first | (exfalso; simp at h; first | done | omega | contradiction) | (exfalso; simp_all; done) | (try simp at h)) | omega)
      refine ⟨9 - (w + 1), by omega, w + 1, rfl, hlt, ?_⟩
      rw [hsu]
      simp [gc, closeN, liveA, gcV, gcO, renA, renAs, renO, namesAs, namesA, namesO, posn]
      exact wrap_id (by omega) (by omega)
  · have hw9 : w = 9 := by omega
    subst hw9
    clear cn hseq hrng
    rw [hceq]
    have hcb := fun i => cntB_le (l.take i) 9
    repeat' (first | refine W_seq ?_ | refine W_skip ?_ | refine W_block ?_ | refine W_exit ?_ | refine pick_pos rfl ?_ | refine pick_neg rfl ?_ | ((first | refine W_regP fun K hK => ?_ | refine W_regPD fun K hK => ?_ | refine W_ret ?_); simp [Fin]) | (with_reducible refine hK _ ?_; clear hK K) | (with_reducible refine goL_split (fun h => ?_) (fun h => ?_) <;> first | (exfalso; simp at h; first | done | omega | contradiction) | ((try simp at h); simp)) | with_reducible refine And.intro ?_ ?_ | with_reducible exact okay_rfl rfl | with_reducible assumption | (refine W_cond rfl (fun h => ?_) (fun h => ?_) <;> first | (exfalso; simp at h; first | done | omega | contradiction) | (exfalso; simp_all; done) | (try simp at h)) | omega)
    refine W_loop (fun m st => ∃ i : Nat, m = l.length - i ∧ i ≤ l.length ∧
      st = ⟨[], [(3, .ptr 0 0), (6, .d (.int .i64 (cntB l 9 : Nat))), (11, .d (.int .i64 (cntB (l.take i) 9 : Nat))), (12, .d (.int .i64 i))], [(0, .box [.d (.int .i64 F), .d (.int .i64 S), .sl 1]), (1, .arr 0 0 7 (rNote l))], 2⟩) _ ⟨0, rfl, by omega, ?_⟩ ?_
    · simp [gc, closeN, liveA, gcV, gcO, renA, renAs, renO, namesAs, namesA, namesO, posn, cntB]
    rintro m st ⟨i, rfl, hi, rfl⟩
    by_cases hli : i < l.length
    · have hg := List.getElem?_eq_getElem hli
      generalize l[i] = x at hg
      have hsn : cntB (l.take (i + 1)) 9 = cntB (l.take i) 9 + (if x.fWho < 9 then 1 else 0) := by rw [List.take_add_one, hg]; exact cntB_snoc _ _ _
      have hcb1 := hcb i
      rw [List.length_take] at hcb1
      generalize cntB (l.take i) 9 = C at *
      obtain ⟨a1, a2, a3, a4, a5, a6, a7⟩ := x
      dsimp only at *
      by_cases h9 : a3 < 9
      · rw [if_pos h9] at hsn
        have hw1 : IntKind.i64.wrap ((C : Nat) + 1) = ((C + 1 : Nat) : Int) := by rw [wrap_id (by omega) (by omega)]; omega
        repeat' (first | refine W_seq ?_ | refine W_skip ?_ | refine W_block ?_ | refine W_exit ?_ | refine pick_pos rfl ?_ | refine pick_neg rfl ?_ | ((first | refine W_regP fun K hK => ?_ | refine W_regPD fun K hK => ?_ | refine W_ret ?_); simp [Fin, hg, h9, hw1]) | (with_reducible refine hK _ ?_; clear hK K) | (with_reducible refine goL_split (fun h => ?_) (fun h => ?_) <;> first | (exfalso; simp at h; first | done | omega | contradiction) | ((try simp at h); simp [hg, h9, hw1])) | with_reducible refine And.intro ?_ ?_ | with_reducible exact okay_rfl rfl | with_reducible assumption | (refine W_cond rfl (fun h => ?_) (fun h => ?_) <;> first | (exfalso; simp at h; first | done | omega | contradiction) | (exfalso; simp_all; done) | (try simp at h)) | omega)
        refine ⟨l.length - (i + 1), by omega, i + 1, rfl, hli, ?_⟩
        rw [hsn]
        simp [gc, closeN, liveA, gcV, gcO, renA, renAs, renO, namesAs, namesA, namesO, posn]
        exact wrap_id (by omega) (by omega)
      · rw [if_neg h9] at hsn
        repeat' (first | refine W_seq ?_ | refine W_skip ?_ | refine W_block ?_ | refine W_exit ?_ | refine pick_pos rfl ?_ | refine pick_neg rfl ?_ | ((first | refine W_regP fun K hK => ?_ | refine W_regPD fun K hK => ?_ | refine W_ret ?_); simp [Fin, hg, h9]) | (with_reducible refine hK _ ?_; clear hK K) | (with_reducible refine goL_split (fun h => ?_) (fun h => ?_) <;> first | (exfalso; simp at h; first | done | omega | contradiction) | ((try simp at h); simp [hg, h9])) | with_reducible refine And.intro ?_ ?_ | with_reducible exact okay_rfl rfl | with_reducible assumption | (refine W_cond rfl (fun h => ?_) (fun h => ?_) <;> first | (exfalso; simp at h; first | done | omega | contradiction) | (exfalso; simp_all; done) | (try simp at h)) | omega)
        refine ⟨l.length - (i + 1), by omega, i + 1, rfl, hli, ?_⟩
        rw [hsn]
        simp [gc, closeN, liveA, gcV, gcO, renA, renAs, renO, namesAs, namesA, namesO, posn]
        exact wrap_id (by omega) (by omega)
    · have hie : i = l.length := by omega
      subst hie
      rw [List.take_length]
      repeat' (first | refine W_seq ?_ | refine W_skip ?_ | refine W_block ?_ | refine W_exit ?_ | refine pick_pos rfl ?_ | refine pick_neg rfl ?_ | ((first | refine W_regP fun K hK => ?_ | refine W_regPD fun K hK => ?_ | refine W_ret ?_); simp [Fin]) | (with_reducible refine hK _ ?_; clear hK K) | (with_reducible refine goL_split (fun h => ?_) (fun h => ?_) <;> first | (exfalso; simp at h; first | done | omega | contradiction) | ((try simp at h); simp)) | with_reducible refine And.intro ?_ ?_ | with_reducible exact okay_rfl rfl | with_reducible assumption | (refine W_cond rfl (fun h => ?_) (fun h => ?_) <;> first | (exfalso; simp at h; first | done | omega | contradiction) | (exfalso; simp_all; done) | (try simp at h)) | omega)


end Go.Proofs.YtalclmngpfpkmaaDoor.Ab

