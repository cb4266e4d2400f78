/-
  A part of a proof about the given program; what is proved is said where each theorem stands.
-/
import Derived.Test.YtalclmngpfpkmaaDoorFrameA
import Derived.Test.YtalclmngpfpkmaaDoorFrameB
import Derived.Test.YtalclmngpfpkmaaDoorFrameC
import Derived.Test.YtalclmngpfpkmaaDoorFrameD
import Derived.Test.YtalclmngpfpkmaaDoorFrameE
import Derived.Test.YtalclmngpfpkmaaDoorCodesA
import Derived.Test.YtalclmngpfpkmaaDoorShelf
import Derived.Test.YtalclmngpfpkmaaDoorPartA
import Derived.Test.YtalclmngpfpkmaaDoorPartB
namespace Go.Proofs
end Go.Proofs
set_option linter.unusedSimpArgs false
set_option linter.unusedVariables false
set_option maxRecDepth 100000
set_option maxHeartbeats 2000000
namespace Go.Proofs.YtalclmngpfpkmaaDoor.Ab
open Go.Proofs
variable {GG : GV}
theorem lChain_ok {c : Cur} (h : c.good) {n : Int} (hn : n ≤ 122) : (lChain c n).1.ok ∧ (lChain c n).1.cost ≤ 60000 ∧ (lChain c n).2.good := by
  obtain ⟨g1, g2, g3, g4⟩ := chRun_ok (lCh0_ok h) n.toNat (by omega)
  unfold lChain
  generalize chRun (lCh0 c) n.toNat = s at *
  have hB : (lChB s.ch s.cu).1.ok ∧ (lChB s.ch s.cu).1.cost ≤ 60000 ∧ (lChB s.ch s.cu).2.good := by
    have ho := lOnce_good g1 5
    unfold lChB
    dsimp only
    split
    · have hi := lBelow_good ho (s.ch.fNotes.length : Nat)
      have hk := lBelow_good hi 6
      have hp := lPick_mem (lBelow (lBelow (lOnce s.cu 5).2 (s.ch.fNotes.length : Nat)).2 6).2 0 (l := [-1, 0]) (by simp)
      have hq : -1 ≤ (lPick (lBelow (lBelow (lOnce s.cu 5).2 (s.ch.fNotes.length : Nat)).2 6).2 0 [-1, 0]).1 ∧ (lPick (lBelow (lBelow (lOnce s.cu 5).2 (s.ch.fNotes.length : Nat)).2 6).2 0 [-1, 0]).1 ≤ 0 := by
        simp only [List.mem_cons, List.not_mem_nil, or_false] at hp
        omega
      obtain ⟨b1, b2⟩ := bendN_ok g3 (lBelow (lOnce s.cu 5).2 (s.ch.fNotes.length : Nat)).1.toNat (lBelow (lBelow (lOnce s.cu 5).2 (s.ch.fNotes.length : Nat)).2 6).1 _ hq
      refine ⟨b1, Nat.le_trans b2 (by omega), ?_⟩
      split
      · exact lPick_good hk (0 : Int) _
      · exact hk
    · exact ⟨g3, by dsimp only; omega, ho⟩
  obtain ⟨b1, b2, b3⟩ := hB
  generalize (lChB s.ch s.cu).1 = d at *
  refine ⟨?_, ?_, lOnce_good b3 30⟩
  · unfold lChC
    dsimp only
    split
    · exact ⟨by show int64 (-1); unfold int64; omega, b1.2⟩
    · exact b1
  · unfold lChC
    dsimp only
    split
    · exact b2
    · exact b2

def hStep (h : Int) (b : UInt8) : Int := and64 (IntKind.i64.wrap (IntKind.i64.wrap (IntKind.i64.wrap (h * 149) + (b.toNat : Nat)) + 11)) 1073741823

def hRun (h : Int) (l : List UInt8) : Int := l.foldl hStep h

def lNew (code : List UInt8) : Cur := ⟨code, 0, hRun (705705 + (code.length : Nat)) (code.take 4000)⟩

theorem lNew_good {code : List UInt8} (h : code.length ≤ 1048577) : (lNew code).good := ⟨Int.le_refl _, by show (0 : Int) ≤ _; omega, h⟩

def lOne (code : List UInt8) : GChain × Cur :=
  let n := lBelow (lNew code) (lSize code.length 20)
  let o := lOnce n.2 30
  if o.1 = true then lChain (lBelow o.2 4).2 (119 + (lBelow o.2 4).1) else lChain o.2 n.1

theorem lOne_ok {code : List UInt8} (h : code.length ≤ 1048577) : (lOne code).1.ok ∧ (lOne code).1.cost ≤ 60000 ∧ (lOne code).2.good := by
  have h1 := lNew_good h
  have h2 := lBelow_good h1 (lSize code.length 20)
  have h3 := lOnce_good h2 30
  have h4 := lBelow_rng0 (lNew code) (lSize code.length 20)
  have h5 : lSize code.length 20 ≤ 20 := by unfold lSize; split <;> omega
  have h6 := lBelow_rng (lOnce (lBelow (lNew code) (lSize code.length 20)).2 30).2 (n := 4) (by omega)
  unfold lOne
  dsimp only
  split
  · exact lChain_ok (lBelow_good h3 4) (by omega)
  · refine lChain_ok h3 ?_
    split at h4 <;> omega

def lAddAt (k : GChain × Cur) : Int × Cur := match k.1.fNotes.getLast? with
  | some x => (IntKind.i64.wrap (x.fAt + (lBelow k.2 3).1), (lBelow k.2 3).2)
  | none => (0, k.2)

def lAddNote (code : List UInt8) : GChain × GNote := ((lOne code).1, (lNote (lAddAt (lOne code)).2 (lAddAt (lOne code)).1).1)

theorem lAddNote_ok {code : List UInt8} (h : code.length ≤ 1048577) : smallN (lAddNote code).2 := (lNote_small _ _).1

theorem lByte_v (c : Cur) (hc : c.good) : Valid PP GG F_S_l01Byte [.box c.o] (.d (.int .i64 (lByte c).1)) [some (.box (lByte c).2.o)] := by
  refine v_S_l01Byte [.d (.int .i64 (lByte c).1)] rfl rfl ?_
  obtain ⟨b, i, h⟩ := c
  obtain ⟨h1, h2, h3⟩ := hc
  dsimp only at h1 h2 h3
  obtain ⟨k, rfl⟩ := Int.eq_ofNat_of_zero_le h1
  have hx := and64_255 (xor64 ((curH h).fdiv 8589934592) ((curH h).fdiv 35184372088832))
  unfold curH at hx
  by_cases hlt : k < b.length
  · have hr : lByte ⟨b, (k : Int), h⟩ = (and64 (byteX (curH h) + nthB b k) 255, ⟨b, k + 1, curH h⟩) := by unfold lByte; rw [if_pos (by dsimp only; omega)]
    have hg := List.getElem?_eq_getElem hlt
    have hn : nthB b k = ((b[k].toNat : Nat) : Int) := by unfold nthB; rw [List.getD_eq_getElem?_getD, Int.toNat_natCast, hg]; rfl
    rw [hr, hn]
    unfold curH byteX
    generalize b[k] = x at *
    have hxx := x.toNat_lt
    have hw1 : IntKind.i64.wrap ((k : Int) + 1) = (k : Int) + 1 := wrap_id (by omega) (by omega)
    have hw2 : IntKind.i64.wrap (x.toNat : Nat) = (x.toNat : Nat) := wrap_id (by omega) (by omega)
    have hw3 : IntKind.i64.wrap (and64 (xor64 ((IntKind.i64.wrap (IntKind.i64.wrap (h * 6364136223846793005) + 1442695040888963407)).fdiv 8589934592) ((IntKind.i64.wrap (IntKind.i64.wrap (h * 6364136223846793005) + 1442695040888963407)).fdiv 35184372088832)) 255 + (x.toNat : Nat)) = and64 (xor64 ((IntKind.i64.wrap (IntKind.i64.wrap (h * 6364136223846793005) + 1442695040888963407)).fdiv 8589934592) ((IntKind.i64.wrap (IntKind.i64.wrap (h * 6364136223846793005) + 1442695040888963407)).fdiv 35184372088832)) 255 + (x.toNat : Nat) := wrap_id (by omega) (by omega)
    repeat' (first | refine W_seq ?_ | refine W_skip ?_ | refine W_block ?_ | refine W_exit ?_ | refine pick_pos rfl ?_ | refine pick_neg rfl ?_ | ((first | refine W_regP fun K hK => ?_ | refine W_regPD fun K hK => ?_ | refine W_ret ?_); simp [Fin, hg, and64_ev, xor64_ev, hw1, hw2, hw3]) | (with_reducible refine hK _ ?_; clear hK K) | (with_reducible refine goL_split (fun h => ?_) (fun h => ?_) <;> first | (exfalso; simp at h; first | done | omega | contradiction) | ((try simp at h); simp [hg, and64_ev, xor64_ev, hw1, hw2, hw3])) | with_reducible refine And.intro ?_ ?_ | with_reducible exact okay_rfl rfl | with_reducible assumption | (refine W_cond rfl (fun h => ?_) (fun h => ?_) <;> first | (exfalso; simp at h; first | done | omega | contradiction) | (exfalso; simp_all; done) | (try simp at h)) | omega)
  · have hr : lByte ⟨b, (k : Int), h⟩ = (byteX (curH h), ⟨b, k, curH h⟩) := by unfold lByte; rw [if_neg (by dsimp only; omega)]
    rw [hr]
    unfold curH byteX
    repeat' (first | refine W_seq ?_ | refine W_skip ?_ | refine W_block ?_ | refine W_exit ?_ | refine pick_pos rfl ?_ | refine pick_neg rfl ?_ | ((first | refine W_regP fun K hK => ?_ | refine W_regPD fun K hK => ?_ | refine W_ret ?_); simp [Fin, and64_ev, xor64_ev]) | (with_reducible refine hK _ ?_; clear hK K) | (with_reducible refine goL_split (fun h => ?_) (fun h => ?_) <;> first | (exfalso; simp at h; first | done | omega | contradiction) | ((try simp at h); simp [and64_ev, xor64_ev])) | with_reducible refine And.intro ?_ ?_ | with_reducible exact okay_rfl rfl | with_reducible assumption | (refine W_cond rfl (fun h => ?_) (fun h => ?_) <;> first | (exfalso; simp at h; first | done | omega | contradiction) | (exfalso; simp_all; done) | (try simp at h)) | omega)

theorem lBelow_v (c : Cur) (n : Int) (hc : c.good) : Valid PP GG F_S_l01Below [.box c.o, .d (.int .i64 n)] (.d (.int .i64 (lBelow c n).1)) [some (.box (lBelow c n).2.o), none] := by
  refine v_S_l01Below [.d (.int .i64 (lBelow c n).1)] rfl rfl ?_
  have c1 := lByte_v (GG := GG) c hc
  have r1 := lByte_rng c
  have c2 := lByte_v (GG := GG) (lByte c).2 (lByte_good hc)
  have r2 := lByte_rng (lByte c).2
  have c3 := lByte_v (GG := GG) (lByte (lByte c).2).2 (lByte_good (lByte_good hc))
  have r3 := lByte_rng (lByte (lByte c).2).2
  have hr : lBelow c n = if n ≤ 0 then (0, c) else if n ≤ 256 then ((lByte c).1.tmod n, (lByte c).2) else
    (((lByte c).1 * 65536 + (lByte (lByte c).2).1 * 256 + (lByte (lByte (lByte c).2).2).1).tmod n, (lByte (lByte (lByte c).2).2).2) := rfl
  by_cases h0 : n ≤ 0
  · rw [if_pos h0] at hr
    rw [hr]
    clear hr c1 c2 c3
    repeat' (first | refine W_seq ?_ | refine W_skip ?_ | refine W_block ?_ | refine W_exit ?_ | refine pick_pos rfl ?_ | refine pick_neg rfl ?_ | ((first | refine W_regP fun K hK => ?_ | refine W_regPD fun K hK => ?_ | refine W_ret ?_); simp [Fin, h0]) | (with_reducible refine hK _ ?_; clear hK K) | (with_reducible refine goL_split (fun h => ?_) (fun h => ?_) <;> first | (exfalso; simp at h; first | done | omega | contradiction) | ((try simp at h); simp [h0])) | with_reducible refine And.intro ?_ ?_ | with_reducible exact okay_rfl rfl | with_reducible assumption | (refine W_cond rfl (fun h => ?_) (fun h => ?_) <;> first | (exfalso; simp at h; first | done | omega | contradiction) | (exfalso; simp_all; done) | (try simp at h)) | omega)
  rw [if_neg h0] at hr
  have hn0 : ¬ n = 0 := by omega
  by_cases h1 : n ≤ 256
  · rw [if_pos h1] at hr
    rw [hr]
    clear hr c2 c3
    repeat' (first | refine W_seq ?_ | refine W_skip ?_ | refine W_block ?_ | refine W_exit ?_ | refine pick_pos rfl ?_ | refine pick_neg rfl ?_ | ((first | refine W_regP fun K hK => ?_ | refine W_regPD fun K hK => ?_ | refine W_ret ?_ | with_reducible refine callQ (c1) ?_); simp [Fin, h0, h1, hn0]) | (with_reducible refine hK _ ?_; clear hK K) | (with_reducible refine goL_split (fun h => ?_) (fun h => ?_) <;> first | (exfalso; simp at h; first | done | omega | contradiction) | ((try simp at h); simp [h0, h1, hn0])) | with_reducible refine And.intro ?_ ?_ | with_reducible exact okay_rfl rfl | with_reducible assumption | (refine W_cond rfl (fun h => ?_) (fun h => ?_) <;> first | (exfalso; simp at h; first | done | omega | contradiction) | (exfalso; simp_all; done) | (try simp at h)) | omega)
  · rw [if_neg h1] at hr
    rw [hr]
    clear hr
    generalize (lByte (lByte (lByte c).2).2) = p3 at *
    generalize (lByte (lByte c).2) = p2 at *
    generalize lByte c = p1 at *
    have hw1 : IntKind.i64.wrap (p1.1 * 65536) = p1.1 * 65536 := wrap_id (by omega) (by omega)
    have hw2 : IntKind.i64.wrap (p2.1 * 256) = p2.1 * 256 := wrap_id (by omega) (by omega)
    have hw3 : IntKind.i64.wrap (p1.1 * 65536 + p2.1 * 256) = p1.1 * 65536 + p2.1 * 256 := wrap_id (by omega) (by omega)
    have hw4 : IntKind.i64.wrap (p1.1 * 65536 + p2.1 * 256 + p3.1) = p1.1 * 65536 + p2.1 * 256 + p3.1 := wrap_id (by omega) (by omega)
    repeat' (first | refine W_seq ?_ | refine W_skip ?_ | refine W_block ?_ | refine W_exit ?_ | refine pick_pos rfl ?_ | refine pick_neg rfl ?_ | ((first | refine W_regP fun K hK => ?_ | refine W_regPD fun K hK => ?_ | refine W_ret ?_ | with_reducible refine callQ (c1) ?_ | with_reducible refine callQ (c2) ?_ | with_reducible refine callQ (c3) ?_); simp [Fin, h0, h1, hn0, hw1, hw2, hw3, hw4]) | (with_reducible refine hK _ ?_; clear hK K) | (with_reducible refine goL_split (fun h => ?_) (fun h => ?_) <;> first | (exfalso; simp at h; first | done | omega | contradiction) | ((try simp at h); simp [h0, h1, hn0, hw1, hw2, hw3, hw4])) | with_reducible refine And.intro ?_ ?_ | with_reducible exact okay_rfl rfl | with_reducible assumption | (refine W_cond rfl (fun h => ?_) (fun h => ?_) <;> first | (exfalso; simp at h; first | done | omega | contradiction) | (exfalso; simp_all; done) | (try simp at h)) | omega)

theorem lOnce_v (c : Cur) (n : Int) (hc : c.good) : Valid PP GG F_S_l01Once [.box c.o, .d (.int .i64 n)] (.d (.bool (lOnce c n).1)) [some (.box (lOnce c n).2.o), none] := by
  refine v_S_l01Once [.d (.bool (lOnce c n).1)] rfl rfl ?_
  have c1 := lBelow_v (GG := GG) c n hc
  have e : lOnce c n = (decide ((lBelow c n).1 = 0), (lBelow c n).2) := rfl
  rw [e]
  have hq : ((lBelow c n).1 == 0) = decide ((lBelow c n).1 = 0) := rfl
  repeat' (first | refine W_seq ?_ | refine W_skip ?_ | refine W_block ?_ | refine W_exit ?_ | refine pick_pos rfl ?_ | refine pick_neg rfl ?_ | ((first | refine W_regP fun K hK => ?_ | refine W_regPD fun K hK => ?_ | refine W_ret ?_ | with_reducible refine callQ (c1) ?_); simp [Fin, hq]) | (with_reducible refine hK _ ?_; clear hK K) | (with_reducible refine goL_split (fun h => ?_) (fun h => ?_) <;> first | (exfalso; simp at h; first | done | omega | contradiction) | ((try simp at h); simp [hq])) | with_reducible refine And.intro ?_ ?_ | with_reducible exact okay_rfl rfl | with_reducible assumption | (refine W_cond rfl (fun h => ?_) (fun h => ?_) <;> first | (exfalso; simp at h; first | done | omega | contradiction) | (exfalso; simp_all; done) | (try simp at h)) | omega)

theorem lPickI_v (c : Cur) (l : List Int) (hc : c.good) (hl : l ≠ []) (hs : l.length ≤ 100) : Valid PP GG F_S_l01PickInt [.box c.o, .own 0 1 (intsD l)] (.d (.int .i64 (lPick c 0 l).1)) [some (.box (lPick c 0 l).2.o), none] := by
  refine v_S_l01PickInt [.d (.int .i64 (lPick c 0 l).1)] rfl rfl ?_
  have c1 := lBelow_v (GG := GG) c l.length hc
  obtain ⟨k, hk, hg⟩ := lPick_get c (0 : Int) hl
  have e : (lPick c 0 l).2 = (lBelow c l.length).2 := rfl
  rw [e]
  have hkl := (List.getElem?_eq_some_iff.1 hg).1
  generalize (lPick c 0 l).1 = v at *
  generalize (lBelow c l.length).2 = c2 at *
  rw [hk] at c1
  repeat' (first | refine W_seq ?_ | refine W_skip ?_ | refine W_block ?_ | refine W_exit ?_ | refine pick_pos rfl ?_ | refine pick_neg rfl ?_ | ((first | refine W_regP fun K hK => ?_ | refine W_regPD fun K hK => ?_ | refine W_ret ?_ | with_reducible refine callQ (c1) ?_); simp [Fin, ints_len, ints_get, hg]) | (with_reducible refine hK _ ?_; clear hK K) | (with_reducible refine goL_split (fun h => ?_) (fun h => ?_) <;> first | (exfalso; simp at h; first | done | omega | contradiction) | ((try simp at h); simp [ints_len, ints_get, hg])) | with_reducible refine And.intro ?_ ?_ | with_reducible exact okay_rfl rfl | with_reducible assumption | (refine W_cond rfl (fun h => ?_) (fun h => ?_) <;> first | (exfalso; simp at h; first | done | omega | contradiction) | (exfalso; simp_all; done) | (try simp at h)) | omega)

theorem lPickT_v (c : Cur) (l : List (List UInt8)) (hc : c.good) (hl : l ≠ []) (hs : l.length ≤ 100) : Valid PP GG F_S_l01PickText [.box c.o, .own 0 1 (strsD l)] (.d (.str (lPick c [] l).1)) [some (.box (lPick c [] l).2.o), none] := by
  refine v_S_l01PickText [.d (.str (lPick c [] l).1)] rfl rfl ?_
  have c1 := lBelow_v (GG := GG) c l.length hc
  obtain ⟨k, hk, hg⟩ := lPick_get c ([] : List UInt8) hl
  have e : (lPick c [] l).2 = (lBelow c l.length).2 := rfl
  rw [e]
  have hkl := (List.getElem?_eq_some_iff.1 hg).1
  generalize (lPick c [] l).1 = v at *
  generalize (lBelow c l.length).2 = c2 at *
  rw [hk] at c1
  repeat' (first | refine W_seq ?_ | refine W_skip ?_ | refine W_block ?_ | refine W_exit ?_ | refine pick_pos rfl ?_ | refine pick_neg rfl ?_ | ((first | refine W_regP fun K hK => ?_ | refine W_regPD fun K hK => ?_ | refine W_ret ?_ | with_reducible refine callQ (c1) ?_); simp [Fin, strsD_len, strs_get, hg]) | (with_reducible refine hK _ ?_; clear hK K) | (with_reducible refine goL_split (fun h => ?_) (fun h => ?_) <;> first | (exfalso; simp at h; first | done | omega | contradiction) | ((try simp at h); simp [strsD_len, strs_get, hg])) | with_reducible refine And.intro ?_ ?_ | with_reducible exact okay_rfl rfl | with_reducible assumption | (refine W_cond rfl (fun h => ?_) (fun h => ?_) <;> first | (exfalso; simp at h; first | done | omega | contradiction) | (exfalso; simp_all; done) | (try simp at h)) | omega)

theorem lSize_v (code : List UInt8) (most : Int) (hs : code.length ≤ 1048577) : Valid PP GG F_S_l01Size [.d (.slc 1 (bytesD code)), .d (.int .i64 most)] (.d (.int .i64 (lSize code.length most))) [none, none] := by
  refine v_S_l01Size [.d (.int .i64 (lSize code.length most))] rfl rfl ?_
  have hl : (bytesD code).length = code.length := bytesD_len code
  have ht : ((code.length : Nat) : Int).tdiv 16 = ((code.length / 16 : Nat) : Int) := rfl
  have hr : lSize code.length most = if most < 2 + ((code.length / 16 : Nat) : Int) then most else 2 + ((code.length / 16 : Nat) : Int) := rfl
  have hb : code.length / 16 ≤ 65537 := by omega
  generalize code.length / 16 = q at *
  have hw1 : IntKind.i64.wrap (q : Int) = (q : Int) := wrap_id (by omega) (by omega)
  have hw2 : IntKind.i64.wrap (2 + (q : Int)) = 2 + (q : Int) := wrap_id (by omega) (by omega)
  by_cases h : most < 2 + (q : Int)
  · rw [if_pos h] at hr
    rw [hr]
    repeat' (first | refine W_seq ?_ | refine W_skip ?_ | refine W_block ?_ | refine W_exit ?_ | refine pick_pos rfl ?_ | refine pick_neg rfl ?_ | ((first | refine W_regP fun K hK => ?_ | refine W_regPD fun K hK => ?_ | refine W_ret ?_); simp [Fin, hl, ht, hw1, hw2]) | (with_reducible refine hK _ ?_; clear hK K) | (with_reducible refine goL_split (fun h => ?_) (fun h => ?_) <;> first | (exfalso; simp at h; first | done | omega | contradiction) | ((try simp at h); simp [hl, ht, hw1, hw2])) | with_reducible refine And.intro ?_ ?_ | with_reducible exact okay_rfl rfl | with_reducible assumption | (refine W_cond rfl (fun h => ?_) (fun h => ?_) <;> first | (exfalso; simp at h; first | done | omega | contradiction) | (exfalso; simp_all; done) | (try simp at h)) | omega)
  · rw [if_neg h] at hr
    rw [hr]
    repeat' (first | refine W_seq ?_ | refine W_skip ?_ | refine W_block ?_ | refine W_exit ?_ | refine pick_pos rfl ?_ | refine pick_neg rfl ?_ | ((first | refine W_regP fun K hK => ?_ | refine W_regPD fun K hK => ?_ | refine W_ret ?_); simp [Fin, hl, ht, hw1, hw2]) | (with_reducible refine hK _ ?_; clear hK K) | (with_reducible refine goL_split (fun h => ?_) (fun h => ?_) <;> first | (exfalso; simp at h; first | done | omega | contradiction) | ((try simp at h); simp [hl, ht, hw1, hw2])) | with_reducible refine And.intro ?_ ?_ | with_reducible exact okay_rfl rfl | with_reducible assumption | (refine W_cond rfl (fun h => ?_) (fun h => ?_) <;> first | (exfalso; simp at h; first | done | omega | contradiction) | (exfalso; simp_all; done) | (try simp at h)) | omega)

theorem lSeg_v (c : Cur) (hc : c.good) : Valid PP GG F_S_l01DrawSegment [.box c.o] (.d (.str (lSeg c).1)) [some (.box (lSeg c).2.o)] := by
  refine v_S_l01DrawSegment [.d (.str (lSeg c).1)] rfl rfl ?_
  have c1 := lOnce_v (GG := GG) c 25 hc
  have c2 : Valid PP GG F_S_l01PickText [.box (lOnce c 25).2.o, .own 0 1 [[.str []], [.str [65]], [.str [97, 47, 98]], [.str [97, 98, 99, 100, 101, 102, 103, 104, 105, 106, 107, 108, 109, 110, 111, 112]], [.str [97, 98, 99, 100, 101, 102, 103, 104, 105, 106, 107, 108, 109, 110, 111, 112, 113]], [.str [45]], [.str [97, 32, 98]], [.str [43, 97]], [.str [42, 42]]]] (.d (.str (lPick (lOnce c 25).2 [] seg1).1)) [some (.box (lPick (lOnce c 25).2 [] seg1).2.o), none] := lPickT_v (lOnce c 25).2 seg1 (lOnce_good hc _) (by decide) (by decide)
  have c3 : Valid PP GG F_S_l01PickText [.box (lOnce c 25).2.o, .own 0 1 [[.str [97]], [.str [98]], [.str [99]], [.str [107, 118]], [.str [100, 98]], [.str [120, 45, 49]], [.str [57]]]] (.d (.str (lPick (lOnce c 25).2 [] seg2).1)) [some (.box (lPick (lOnce c 25).2 [] seg2).2.o), none] := lPickT_v (lOnce c 25).2 seg2 (lOnce_good hc _) (by decide) (by decide)
  have hr : lSeg c = if (lOnce c 25).1 = true then lPick (lOnce c 25).2 [] seg1 else lPick (lOnce c 25).2 [] seg2 := rfl
  generalize lPick (lOnce c 25).2 [] seg1 = p at *
  generalize lPick (lOnce c 25).2 [] seg2 = q at *
  generalize lOnce c 25 = o at *
  obtain ⟨ob, oc⟩ := o
  cases ob
  · rw [if_neg (by simp)] at hr
    rw [hr]
    clear hr c2
    repeat' (first | refine W_seq ?_ | refine W_skip ?_ | refine W_block ?_ | refine W_exit ?_ | refine pick_pos rfl ?_ | refine pick_neg rfl ?_ | ((first | refine W_regP fun K hK => ?_ | refine W_regPD fun K hK => ?_ | refine W_ret ?_ | with_reducible refine callQ (c1) ?_ | with_reducible refine callQ (c3) ?_); simp [Fin]) | (with_reducible refine hK _ ?_; clear hK K) | (with_reducible refine goL_split (fun h => ?_) (fun h => ?_) <;> first | (exfalso; simp at h; first | done | omega | contradiction) | ((try simp at h); simp)) | with_reducible refine And.intro ?_ ?_ | with_reducible exact okay_rfl rfl | with_reducible assumption | (refine W_cond rfl (fun h => ?_) (fun h => ?_) <;> first | (exfalso; simp at h; first | done | omega | contradiction) | (exfalso; simp_all; done) | (try simp at h)) | omega)
  · rw [if_pos rfl] at hr
    rw [hr]
    clear hr c3
    repeat' (first | refine W_seq ?_ | refine W_skip ?_ | refine W_block ?_ | refine W_exit ?_ | refine pick_pos rfl ?_ | refine pick_neg rfl ?_ | ((first | refine W_regP fun K hK => ?_ | refine W_regPD fun K hK => ?_ | refine W_ret ?_ | with_reducible refine callQ (c1) ?_ | with_reducible refine callQ (c2) ?_); simp [Fin]) | (with_reducible refine hK _ ?_; clear hK K) | (with_reducible refine goL_split (fun h => ?_) (fun h => ?_) <;> first | (exfalso; simp at h; first | done | omega | contradiction) | ((try simp at h); simp)) | with_reducible refine And.intro ?_ ?_ | with_reducible exact okay_rfl rfl | with_reducible assumption | (refine W_cond rfl (fun h => ?_) (fun h => ?_) <;> first | (exfalso; simp at h; first | done | omega | contradiction) | (exfalso; simp_all; done) | (try simp at h)) | omega)

theorem lGood_v (c : Cur) (hc : c.good) : Valid PP GG F_S_l04DrawGood [.box c.o] (.d (.int .i64 (lGood c).1)) [some (.box (lGood c).2.o)] := by
  refine v_S_l04DrawGood [.d (.int .i64 (lGood c).1)] rfl rfl ?_
  have c1 := lBelow_v (GG := GG) c 16777216 hc
  have r1 := lBelow_rng c (n := 16777216) (by omega)
  have c2 := lBelow_v (GG := GG) (lBelow c 16777216).2 65536 (lBelow_good hc _)
  have r2 := lBelow_rng (lBelow c 16777216).2 (n := 65536) (by omega)
  have hr : lGood c = ((lBelow c 16777216).1 * 65536 + (lBelow (lBelow c 16777216).2 65536).1, (lBelow (lBelow c 16777216).2 65536).2) := rfl
  rw [hr]
  clear hr
  generalize (lBelow (lBelow c 16777216).2 65536) = q at *
  generalize (lBelow c 16777216) = p at *
  have hw1 : IntKind.i64.wrap (p.1 * 65536) = p.1 * 65536 := wrap_id (by omega) (by omega)
  have hw2 : IntKind.i64.wrap (p.1 * 65536 + q.1) = p.1 * 65536 + q.1 := wrap_id (by omega) (by omega)
  repeat' (first | refine W_seq ?_ | refine W_skip ?_ | refine W_block ?_ | refine W_exit ?_ | refine pick_pos rfl ?_ | refine pick_neg rfl ?_ | ((first | refine W_regP fun K hK => ?_ | refine W_regPD fun K hK => ?_ | refine W_ret ?_ | with_reducible refine callQ (c1) ?_ | with_reducible refine callQ (c2) ?_); simp [Fin, hw1, hw2]) | (with_reducible refine hK _ ?_; clear hK K) | (with_reducible refine goL_split (fun h => ?_) (fun h => ?_) <;> first | (exfalso; simp at h; first | done | omega | contradiction) | ((try simp at h); simp [hw1, hw2])) | with_reducible refine And.intro ?_ ?_ | with_reducible exact okay_rfl rfl | with_reducible assumption | (refine W_cond rfl (fun h => ?_) (fun h => ?_) <;> first | (exfalso; simp at h; first | done | omega | contradiction) | (exfalso; simp_all; done) | (try simp at h)) | omega)

theorem hRun_succ {l : List UInt8} {i : Nat} {x : UInt8} (h : l[i]? = some x) (a : Int) : hRun a (l.take (i + 1)) = hStep (hRun a (l.take i)) x := by
  rw [List.take_add_one, h]
  unfold hRun
  rw [List.foldl_append]
  rfl

theorem lNew_v (code : List UInt8) (hl : code.length ≤ 1048577) : Valid PP GG F_S_l01New [.d (.slc 1 (bytesD code))] (.box (lNew code).o) [none] := by
  refine v_S_l01New [.box (lNew code).o] rfl rfl ?_
  have hbl : (bytesD code).length = code.length := bytesD_len code
  have hw0 : IntKind.i64.wrap (705705 + (code.length : Nat)) = 705705 + (code.length : Nat) := wrap_id (by omega) (by omega)
  repeat' (first | refine W_seq ?_ | refine W_skip ?_ | refine W_block ?_ | refine W_exit ?_ | refine pick_pos rfl ?_ | refine pick_neg rfl ?_ | ((first | refine W_regP fun K hK => ?_ | refine W_regPD fun K hK => ?_ | refine W_ret ?_); simp [Fin, hbl, hw0]) | (with_reducible refine hK _ ?_; clear hK K) | (with_reducible refine goL_split (fun h => ?_) (fun h => ?_) <;> first | (exfalso; simp at h; first | done | omega | contradiction) | ((try simp at h); simp [hbl, hw0])) | with_reducible refine And.intro ?_ ?_ | with_reducible exact okay_rfl rfl | with_reducible assumption | (refine W_cond rfl (fun h => ?_) (fun h => ?_) <;> first | (exfalso; simp at h; first | done | omega | contradiction) | (exfalso; simp_all; done) | (try simp at h)) | omega)
  refine W_loop (fun n st => ∃ i : Nat, n = code.length - i ∧ i ≤ code.length ∧ i ≤ 4000 ∧
    st = ⟨[], [(0, .d (.slc 1 (bytesD code))), (3, .d (.int .i64 (hRun (705705 + (code.length : Nat)) (code.take i)))), (4, .d (.int .i64 i))], [], 0⟩) _ ⟨0, rfl, by omega, by omega, ?_⟩ ?_
  · simp [gc, closeN, liveA, gcV, gcO, renA, renAs, renO, namesAs, namesA, namesO, posn, hRun]
  rintro n st ⟨i, rfl, hi, hi2, rfl⟩
  by_cases hlt : i < code.length
  · by_cases h4 : i < 4000
    · have ha := List.getElem?_eq_getElem hlt
      generalize code[i] = x at ha
      have hs := hRun_succ ha (705705 + (code.length : Nat))
      unfold hStep at hs
      have hx := x.toNat_lt
      generalize hRun (705705 + (code.length : Nat)) (code.take i) = H at *
      have hw1 : IntKind.i64.wrap (x.toNat : Nat) = (x.toNat : Nat) := wrap_id (by omega) (by omega)
      repeat' (first | refine W_seq ?_ | refine W_skip ?_ | refine W_block ?_ | refine W_exit ?_ | refine pick_pos rfl ?_ | refine pick_neg rfl ?_ | ((first | refine W_regP fun K hK => ?_ | refine W_regPD fun K hK => ?_ | refine W_ret ?_); simp [Fin, ha, hbl, and64_ev, hw1]) | (with_reducible refine hK _ ?_; clear hK K) | (with_reducible refine goL_split (fun h => ?_) (fun h => ?_) <;> first | (exfalso; simp at h; first | done | omega | contradiction) | ((try simp at h); simp [ha, hbl, and64_ev, hw1])) | with_reducible refine And.intro ?_ ?_ | with_reducible exact okay_rfl rfl | with_reducible assumption | (refine W_cond rfl (fun h => ?_) (fun h => ?_) <;> first | (exfalso; simp at h; first | done | omega | contradiction) | (exfalso; simp_all; done) | (try simp at h)) | omega)
      refine ⟨code.length - (i + 1), by omega, i + 1, rfl, by omega, by omega, ?_⟩
      rw [hs]
      simp [gc, closeN, liveA, gcV, gcO, renA, renAs, renO, namesAs, namesA, namesO, posn]
      exact wrap_id (by omega) (by omega)
    · have hie : i = 4000 := by omega
      subst hie
      have e : lNew code = ⟨code, 0, hRun (705705 + (code.length : Nat)) (code.take 4000)⟩ := rfl
      rw [e]
      repeat' (first | refine W_seq ?_ | refine W_skip ?_ | refine W_block ?_ | refine W_exit ?_ | refine pick_pos rfl ?_ | refine pick_neg rfl ?_ | ((first | refine W_regP fun K hK => ?_ | refine W_regPD fun K hK => ?_ | refine W_ret ?_); simp [Fin, hbl]) | (with_reducible refine hK _ ?_; clear hK K) | (with_reducible refine goL_split (fun h => ?_) (fun h => ?_) <;> first | (exfalso; simp at h; first | done | omega | contradiction) | ((try simp at h); simp [hbl])) | with_reducible refine And.intro ?_ ?_ | with_reducible exact okay_rfl rfl | with_reducible assumption | (refine W_cond rfl (fun h => ?_) (fun h => ?_) <;> first | (exfalso; simp at h; first | done | omega | contradiction) | (exfalso; simp_all; done) | (try simp at h)) | omega)
  · have hie : i = code.length := by omega
    subst hie
    have e : lNew code = ⟨code, 0, hRun (705705 + (code.length : Nat)) (code.take code.length)⟩ := by
      unfold lNew
      rw [List.take_of_length_le (Nat.le_refl code.length), List.take_of_length_le hi2]
    rw [e]
    repeat' (first | refine W_seq ?_ | refine W_skip ?_ | refine W_block ?_ | refine W_exit ?_ | refine pick_pos rfl ?_ | refine pick_neg rfl ?_ | ((first | refine W_regP fun K hK => ?_ | refine W_regPD fun K hK => ?_ | refine W_ret ?_); simp [Fin, hbl]) | (with_reducible refine hK _ ?_; clear hK K) | (with_reducible refine goL_split (fun h => ?_) (fun h => ?_) <;> first | (exfalso; simp at h; first | done | omega | contradiction) | ((try simp at h); simp [hbl])) | with_reducible refine And.intro ?_ ?_ | with_reducible exact okay_rfl rfl | with_reducible assumption | (refine W_cond rfl (fun h => ?_) (fun h => ?_) <;> first | (exfalso; simp at h; first | done | omega | contradiction) | (exfalso; simp_all; done) | (try simp at h)) | omega)

theorem lPath_v (c : Cur) (hc : c.good) : Valid PP GG F_S_l01DrawPath [.box c.o] (.d (.str (lPath c).1)) [some (.box (lPath c).2.o)] := by
  refine v_S_l01DrawPath [.d (.str (lPath c).1)] rfl rfl ?_
  have hr : lPath c = lPathL ((lSeg c).1, (lPathN (lSeg c).2).2) (lPathN (lSeg c).2).1.toNat := rfl
  have c1 := lSeg_v (GG := GG) c hc
  have g1 := lSeg_good hc
  have l1 := lSeg_len c
  generalize lSeg c = s at *
  have hN : lPathN s.2 = if (lOnce (lBelow s.2 4).2 20).1 = true then (7 + (lBelow (lOnce (lBelow s.2 4).2 20).2 2).1, (lBelow (lOnce (lBelow s.2 4).2 20).2 2).2) else ((lBelow s.2 4).1, (lOnce (lBelow s.2 4).2 20).2) := rfl
  have rN := lPathN_rng s.2
  have gN := lPathN_good g1
  have c2 := lBelow_v (GG := GG) s.2 4 g1
  have g2 := lBelow_good g1 4
  have r2 := lBelow_rng s.2 (n := 4) (by omega)
  generalize lBelow s.2 4 = n at *
  have c3 := lOnce_v (GG := GG) n.2 20 g2
  have g3 := lOnce_good g2 20
  generalize lOnce n.2 20 = o at *
  obtain ⟨o1, o2⟩ := o
  dsimp only at g3 hN
  have c4 := lBelow_v (GG := GG) o2 2 g3
  have r4 := lBelow_rng o2 (n := 2) (by omega)
  generalize lBelow o2 2 = m at *
  rw [hr]
  clear hr
  generalize lPathN s.2 = N at *
  obtain ⟨N1, N2⟩ := N
  dsimp only at rN gN ⊢
  refine W_seq (?_)
  apply W_regS
  · intro K hK
    simp
    repeat' (first | with_reducible exact hK | (with_reducible refine goL_split (fun _ => ?_) (fun _ => ?_) <;> simp) | with_reducible refine And.intro ?_ ?_ | with_reducible exact okay_rfl rfl | with_reducible assumption | omega)
  refine W_seq (?_)
  apply W_regS
  · intro K hK
    simp
    repeat' (first | with_reducible exact hK | (with_reducible refine callQ (c1) ?_; simp) | (with_reducible refine goL_split (fun _ => ?_) (fun _ => ?_) <;> simp) | with_reducible refine And.intro ?_ ?_ | with_reducible exact okay_rfl rfl | with_reducible assumption | omega)
  refine W_seq (?_)
  apply W_regS
  · intro K hK
    simp
    repeat' (first | with_reducible exact hK | (with_reducible refine callQ (c2) ?_; simp) | (with_reducible refine goL_split (fun _ => ?_) (fun _ => ?_) <;> simp) | with_reducible refine And.intro ?_ ?_ | with_reducible exact okay_rfl rfl | with_reducible assumption | omega)
  refine W_cut [0, 3, 4] (fun st' => st' = ⟨[], [(0, .ptr 0 0), (3, .d (.str s.1)), (4, .d (.int .i64 N1))], [(0, .box [.d (.slc 1 (bytesD N2.b)), .d (.int .i64 N2.i), .d (.int .i64 N2.h)])], 1⟩) ?_ ?_
  · cases o1
    · rw [if_neg (by simp)] at hN
      injection hN with e1 e2
      subst e1 e2
      clear c4
      repeat' (first | refine W_seq ?_ | refine W_skip ?_ | refine W_block ?_ | refine W_exit ?_ | refine pick_pos rfl ?_ | refine pick_neg rfl ?_ | ((first | refine W_regP fun K hK => ?_ | refine W_regPD fun K hK => ?_ | refine W_ret ?_ | with_reducible refine callQ (c3) ?_); simp [Fin]) | (with_reducible refine hK _ ?_; clear hK K) | (with_reducible refine goL_split (fun h => ?_) (fun h => ?_) <;> first | (exfalso; simp at h; first | done | omega | contradiction) | ((try simp at h); simp)) | with_reducible refine And.intro ?_ ?_ | with_reducible exact okay_rfl rfl | with_reducible assumption | (refine W_cond rfl (fun h => ?_) (fun h => ?_) <;> first | (exfalso; simp at h; first | done | omega | contradiction) | (exfalso; simp_all; done) | (try simp at h)) | omega)
      simp [gc, closeN, liveA, gcV, gcO, renA, renAs, renO, namesAs, namesA, namesO, posn]
    · rw [if_pos rfl] at hN
      injection hN with e1 e2
      subst e1 e2
      have hw : IntKind.i64.wrap (7 + m.1) = 7 + m.1 := wrap_id (by omega) (by omega)
      repeat' (first | refine W_seq ?_ | refine W_skip ?_ | refine W_block ?_ | refine W_exit ?_ | refine pick_pos rfl ?_ | refine pick_neg rfl ?_ | ((first | refine W_regP fun K hK => ?_ | refine W_regPD fun K hK => ?_ | refine W_ret ?_ | with_reducible refine callQ (c3) ?_ | with_reducible refine callQ (c4) ?_); simp [Fin, hw]) | (with_reducible refine hK _ ?_; clear hK K) | (with_reducible refine goL_split (fun h => ?_) (fun h => ?_) <;> first | (exfalso; simp at h; first | done | omega | contradiction) | ((try simp at h); simp [hw])) | with_reducible refine And.intro ?_ ?_ | with_reducible exact okay_rfl rfl | with_reducible assumption | (refine W_cond rfl (fun h => ?_) (fun h => ?_) <;> first | (exfalso; simp at h; first | done | omega | contradiction) | (exfalso; simp_all; done) | (try simp at h)) | omega)
      simp [gc, closeN, liveA, gcV, gcO, renA, renAs, renO, namesAs, namesA, namesO, posn]
  rintro st rfl
  clear hN c1 c2 c3 c4
  repeat' (first | refine W_seq ?_ | refine W_skip ?_ | refine W_block ?_ | refine W_exit ?_ | refine pick_pos rfl ?_ | refine pick_neg rfl ?_ | ((first | refine W_regP fun K hK => ?_ | refine W_regPD fun K hK => ?_ | refine W_ret ?_); simp [Fin]) | (with_reducible refine hK _ ?_; clear hK K) | (with_reducible refine goL_split (fun h => ?_) (fun h => ?_) <;> first | (exfalso; simp at h; first | done | omega | contradiction) | ((try simp at h); simp)) | with_reducible refine And.intro ?_ ?_ | with_reducible exact okay_rfl rfl | with_reducible assumption | (refine W_cond rfl (fun h => ?_) (fun h => ?_) <;> first | (exfalso; simp at h; first | done | omega | contradiction) | (exfalso; simp_all; done) | (try simp at h)) | omega)
  refine W_loop (fun k st => ∃ i : Nat, k = N1.toNat - i ∧ i ≤ N1.toNat ∧
    st = ⟨[], [(0, .ptr 0 0), (3, .d (.str (lPathL (s.1, N2) i).1)), (4, .d (.int .i64 N1)), (5, .d (.int .i64 i))], [(0, .box [.d (.slc 1 (bytesD (lPathL (s.1, N2) i).2.b)), .d (.int .i64 (lPathL (s.1, N2) i).2.i), .d (.int .i64 (lPathL (s.1, N2) i).2.h)])], 1⟩) _ ⟨0, rfl, by omega, ?_⟩ ?_
  · simp [gc, closeN, liveA, gcV, gcO, renA, renAs, renO, namesAs, namesA, namesO, posn, lPathL]
  rintro k st ⟨i, rfl, hi, rfl⟩
  by_cases hlt : (i : Int) < N1
  rotate_left
  · have hie : N1.toNat = i := by omega
    rw [hie]
    generalize lPathL (s.1, N2) i = L at *
    repeat' (first | refine W_seq ?_ | refine W_skip ?_ | refine W_block ?_ | refine W_exit ?_ | refine pick_pos rfl ?_ | refine pick_neg rfl ?_ | ((first | refine W_regP fun K hK => ?_ | refine W_regPD fun K hK => ?_ | refine W_ret ?_); simp [Fin, hlt]) | (with_reducible refine hK _ ?_; clear hK K) | (with_reducible refine goL_split (fun h => ?_) (fun h => ?_) <;> first | (exfalso; simp at h; first | done | omega | contradiction) | ((try simp at h); simp [hlt])) | with_reducible refine And.intro ?_ ?_ | with_reducible exact okay_rfl rfl | with_reducible assumption | (refine W_cond rfl (fun h => ?_) (fun h => ?_) <;> first | (exfalso; simp at h; first | done | omega | contradiction) | (exfalso; simp_all; done) | (try simp at h)) | omega)
  have hs : lPathL (s.1, N2) (i + 1) = ((lPathL (s.1, N2) i).1 ++ [47] ++ (lSeg (lPathL (s.1, N2) i).2).1, (lSeg (lPathL (s.1, N2) i).2).2) := rfl
  have gL := lPathL_good (s := (s.1, N2)) gN i
  have hL := lPathL_len (s.1, N2) i
  generalize lPathL (s.1, N2) i = L at *
  have c5 := lSeg_v (GG := GG) L.2 gL
  have l5 := lSeg_len L.2
  generalize lSeg L.2 = S at *
  dsimp only at hL
  repeat' (first | refine W_seq ?_ | refine W_skip ?_ | refine W_block ?_ | refine W_exit ?_ | refine pick_pos rfl ?_ | refine pick_neg rfl ?_ | ((first | refine W_regP fun K hK => ?_ | refine W_regPD fun K hK => ?_ | refine W_ret ?_ | with_reducible refine callQ (c5) ?_); simp [Fin, hlt, maxStr]) | (with_reducible refine hK _ ?_; clear hK K) | (with_reducible refine goL_split (fun h => ?_) (fun h => ?_) <;> first | (exfalso; simp at h; first | done | omega | contradiction) | ((try simp at h); simp [hlt, maxStr])) | with_reducible refine And.intro ?_ ?_ | with_reducible exact okay_rfl rfl | with_reducible assumption | (refine W_cond rfl (fun h => ?_) (fun h => ?_) <;> first | (exfalso; simp at h; first | done | omega | contradiction) | (exfalso; simp_all; done) | (try simp at h)) | omega)
  refine ⟨N1.toNat - (i + 1), by omega, i + 1, rfl, by omega, ?_⟩
  rw [hs]
  simp [gc, closeN, liveA, gcV, gcO, renA, renAs, renO, namesAs, namesA, namesO, posn]
  exact wrap_id (by omega) (by omega)

theorem lNote_v (c : Cur) (a : Int) (hc : c.good) : Valid PP GG F_S_l15DrawNote [.box c.o, .d (.int .i64 a)] (.agg (lNote c a).1.o) [some (.box (lNote c a).2.o), none] := by
  refine v_S_l15DrawNote [.agg (lNote c a).1.o] rfl rfl ?_
  have hr : lNote c a = if (lOnce (lNoteA c a).2 25).1 = true then lNoteB (lNoteA c a).1 (lOnce (lNoteA c a).2 25).2 else ((lNoteA c a).1, (lOnce (lNoteA c a).2 25).2) := rfl
  have hA : lNoteA c a = ({ fSeq := 0, fAt := a, fWho := (lBelow c 9).1, fWhat := (lPick (lBelow c 9).2 [] wha1).1, fPath := (lPick (lPick (lBelow c 9).2 [] wha1).2 [] pat1).1, fCode := (lBelow (lPick (lPick (lBelow c 9).2 [] wha1).2 [] pat1).2 8).1, fSum := 0 }, (lBelow (lPick (lPick (lBelow c 9).2 [] wha1).2 [] pat1).2 8).2) := rfl
  have g1 := lBelow_good hc 9
  have c1 := lBelow_v (GG := GG) c 9 hc
  generalize lBelow c 9 = w at *
  have g2 := lPick_good g1 ([] : List UInt8) wha1
  have c2 := lPickT_v (GG := GG) w.2 wha1 g1 (by decide) (by decide)
  generalize lPick w.2 [] wha1 = t at *
  have g3 := lPick_good g2 ([] : List UInt8) pat1
  have c3 := lPickT_v (GG := GG) t.2 pat1 g2 (by decide) (by decide)
  generalize lPick t.2 [] pat1 = p at *
  have g4 := lBelow_good g3 8
  have c4 := lBelow_v (GG := GG) p.2 8 g3
  generalize lBelow p.2 8 = k at *
  rw [hA] at hr
  dsimp only at hr
  have g5 := lOnce_good g4 25
  have c5 := lOnce_v (GG := GG) k.2 25 g4
  generalize lOnce k.2 25 = o at *
  simp only [strsD, wha1, List.map_cons, List.map_nil] at c2
  simp only [strsD, pat1, List.map_cons, List.map_nil] at c3
  clear hA
  obtain ⟨o1, o2⟩ := o
  cases o1
  · rw [if_neg (by simp)] at hr
    rw [hr]
    clear hr
    repeat' (first | refine W_seq ?_ | refine W_skip ?_ | refine W_block ?_ | refine W_exit ?_ | refine pick_pos rfl ?_ | refine pick_neg rfl ?_ | ((first | refine W_regP fun K hK => ?_ | refine W_regPD fun K hK => ?_ | refine W_ret ?_ | with_reducible refine callQ (c1) ?_ | with_reducible refine callQ (c2) ?_ | with_reducible refine callQ (c3) ?_ | with_reducible refine callQ (c4) ?_ | with_reducible refine callQ (c5) ?_); simp [Fin]) | (with_reducible refine hK _ ?_; clear hK K) | (with_reducible refine goL_split (fun h => ?_) (fun h => ?_) <;> first | (exfalso; simp at h; first | done | omega | contradiction) | ((try simp at h); simp)) | with_reducible refine And.intro ?_ ?_ | with_reducible exact okay_rfl rfl | with_reducible assumption | (refine W_cond rfl (fun h => ?_) (fun h => ?_) <;> first | (exfalso; simp at h; first | done | omega | contradiction) | (exfalso; simp_all; done) | (try simp at h)) | omega)
  rw [if_pos rfl] at hr
  dsimp only at g5
  have c6 := lBelow_v (GG := GG) o2 5 g5
  have g6 := lBelow_good g5 5
  have r6 := lBelow_rng o2 (n := 5) (by omega)
  unfold lNoteB at hr
  dsimp only at hr
  generalize lBelow o2 5 = s at *
  by_cases h0 : s.1 = 0
  · rw [if_pos h0] at hr
    have c7 := lPickI_v (GG := GG) s.2 [-1, 1000000000, 1000000001, 0] g6 (by decide) (by decide)
    generalize lPick s.2 0 [-1, 1000000000, 1000000001, 0] = q at *
    simp only [intsD, List.map_cons, List.map_nil] at c7
    rw [hr]
    clear hr
    repeat' (first | refine W_seq ?_ | refine W_skip ?_ | refine W_block ?_ | refine W_exit ?_ | refine pick_pos rfl ?_ | refine pick_neg rfl ?_ | ((first | refine W_regP fun K hK => ?_ | refine W_regPD fun K hK => ?_ | refine W_ret ?_ | with_reducible refine callQ (c1) ?_ | with_reducible refine callQ (c2) ?_ | with_reducible refine callQ (c3) ?_ | with_reducible refine callQ (c4) ?_ | with_reducible refine callQ (c5) ?_ | with_reducible refine callQ (c6) ?_ | with_reducible refine callQ (c7) ?_); simp [Fin, h0]) | (with_reducible refine hK _ ?_; clear hK K) | (with_reducible refine goL_split (fun h => ?_) (fun h => ?_) <;> first | (exfalso; simp at h; first | done | omega | contradiction) | ((try simp at h); simp [h0])) | with_reducible refine And.intro ?_ ?_ | with_reducible exact okay_rfl rfl | with_reducible assumption | (refine W_cond rfl (fun h => ?_) (fun h => ?_) <;> first | (exfalso; simp at h; first | done | omega | contradiction) | (exfalso; simp_all; done) | (try simp at h)) | omega)
  rw [if_neg h0] at hr
  by_cases h1 : s.1 = 1
  · rw [if_pos h1] at hr
    have c7 := lPickI_v (GG := GG) s.2 [-1, 1000000000, 1000000001] g6 (by decide) (by decide)
    generalize lPick s.2 0 [-1, 1000000000, 1000000001] = q at *
    simp only [intsD, List.map_cons, List.map_nil] at c7
    rw [hr]
    clear hr
    repeat' (first | refine W_seq ?_ | refine W_skip ?_ | refine W_block ?_ | refine W_exit ?_ | refine pick_pos rfl ?_ | refine pick_neg rfl ?_ | ((first | refine W_regP fun K hK => ?_ | refine W_regPD fun K hK => ?_ | refine W_ret ?_ | with_reducible refine callQ (c1) ?_ | with_reducible refine callQ (c2) ?_ | with_reducible refine callQ (c3) ?_ | with_reducible refine callQ (c4) ?_ | with_reducible refine callQ (c5) ?_ | with_reducible refine callQ (c6) ?_ | with_reducible refine callQ (c7) ?_); simp [Fin, h1]) | (with_reducible refine hK _ ?_; clear hK K) | (with_reducible refine goL_split (fun h => ?_) (fun h => ?_) <;> first | (exfalso; simp at h; first | done | omega | contradiction) | ((try simp at h); simp [h1])) | with_reducible refine And.intro ?_ ?_ | with_reducible exact okay_rfl rfl | with_reducible assumption | (refine W_cond rfl (fun h => ?_) (fun h => ?_) <;> first | (exfalso; simp at h; first | done | omega | contradiction) | (exfalso; simp_all; done) | (try simp at h)) | omega)
  rw [if_neg h1] at hr
  by_cases h2 : s.1 = 2
  · rw [if_pos h2] at hr
    have c7 := lPickT_v (GG := GG) s.2 wha2 g6 (by decide) (by decide)
    generalize lPick s.2 [] wha2 = q at *
    simp only [strsD, wha2, List.map_cons, List.map_nil] at c7
    rw [hr]
    clear hr
    repeat' (first | refine W_seq ?_ | refine W_skip ?_ | refine W_block ?_ | refine W_exit ?_ | refine pick_pos rfl ?_ | refine pick_neg rfl ?_ | ((first | refine W_regP fun K hK => ?_ | refine W_regPD fun K hK => ?_ | refine W_ret ?_ | with_reducible refine callQ (c1) ?_ | with_reducible refine callQ (c2) ?_ | with_reducible refine callQ (c3) ?_ | with_reducible refine callQ (c4) ?_ | with_reducible refine callQ (c5) ?_ | with_reducible refine callQ (c6) ?_ | with_reducible refine callQ (c7) ?_); simp [Fin, h2]) | (with_reducible refine hK _ ?_; clear hK K) | (with_reducible refine goL_split (fun h => ?_) (fun h => ?_) <;> first | (exfalso; simp at h; first | done | omega | contradiction) | ((try simp at h); simp [h2])) | with_reducible refine And.intro ?_ ?_ | with_reducible exact okay_rfl rfl | with_reducible assumption | (refine W_cond rfl (fun h => ?_) (fun h => ?_) <;> first | (exfalso; simp at h; first | done | omega | contradiction) | (exfalso; simp_all; done) | (try simp at h)) | omega)
  rw [if_neg h2] at hr
  by_cases h3 : s.1 = 3
  · rw [if_pos h3] at hr
    have c7 := lPath_v (GG := GG) s.2 g6
    generalize lPath s.2 = q at *
    rw [hr]
    clear hr
    repeat' (first | refine W_seq ?_ | refine W_skip ?_ | refine W_block ?_ | refine W_exit ?_ | refine pick_pos rfl ?_ | refine pick_neg rfl ?_ | ((first | refine W_regP fun K hK => ?_ | refine W_regPD fun K hK => ?_ | refine W_ret ?_ | with_reducible refine callQ (c1) ?_ | with_reducible refine callQ (c2) ?_ | with_reducible refine callQ (c3) ?_ | with_reducible refine callQ (c4) ?_ | with_reducible refine callQ (c5) ?_ | with_reducible refine callQ (c6) ?_ | with_reducible refine callQ (c7) ?_); simp [Fin, h3]) | (with_reducible refine hK _ ?_; clear hK K) | (with_reducible refine goL_split (fun h => ?_) (fun h => ?_) <;> first | (exfalso; simp at h; first | done | omega | contradiction) | ((try simp at h); simp [h3])) | with_reducible refine And.intro ?_ ?_ | with_reducible exact okay_rfl rfl | with_reducible assumption | (refine W_cond rfl (fun h => ?_) (fun h => ?_) <;> first | (exfalso; simp at h; first | done | omega | contradiction) | (exfalso; simp_all; done) | (try simp at h)) | omega)
  rw [if_neg h3] at hr
  have h4 : s.1 = 4 := by omega
  rw [if_pos h4] at hr
  have c7 := lPickI_v (GG := GG) s.2 [-1, 99, 100] g6 (by decide) (by decide)
  generalize lPick s.2 0 [-1, 99, 100] = q at *
  simp only [intsD, List.map_cons, List.map_nil] at c7
  rw [hr]
  clear hr
  repeat' (first | refine W_seq ?_ | refine W_skip ?_ | refine W_block ?_ | refine W_exit ?_ | refine pick_pos rfl ?_ | refine pick_neg rfl ?_ | ((first | refine W_regP fun K hK => ?_ | refine W_regPD fun K hK => ?_ | refine W_ret ?_ | with_reducible refine callQ (c1) ?_ | with_reducible refine callQ (c2) ?_ | with_reducible refine callQ (c3) ?_ | with_reducible refine callQ (c4) ?_ | with_reducible refine callQ (c5) ?_ | with_reducible refine callQ (c6) ?_ | with_reducible refine callQ (c7) ?_); simp [Fin, h4]) | (with_reducible refine hK _ ?_; clear hK K) | (with_reducible refine goL_split (fun h => ?_) (fun h => ?_) <;> first | (exfalso; simp at h; first | done | omega | contradiction) | ((try simp at h); simp [h4])) | with_reducible refine And.intro ?_ ?_ | with_reducible exact okay_rfl rfl | with_reducible assumption | (refine W_cond rfl (fun h => ?_) (fun h => ?_) <;> first | (exfalso; simp at h; first | done | omega | contradiction) | (exfalso; simp_all; done) | (try simp at h)) | omega)

theorem lChain_v (c : Cur) (n : Int) (hc : c.good) (hn : n ≤ 122) : Valid PP GG F_S_l15DrawChain [.box c.o, .d (.int .i64 n)] (.agg (lChain c n).1.o) [some (.box (lChain c n).2.o), none] := by
  refine v_S_l15DrawChain [.agg (lChain c n).1.o] rfl rfl ?_
  have hr : lChain c n = lChC (lChB (chRun (lCh0 c) n.toNat).ch (chRun (lCh0 c) n.toNat).cu).1 (lChB (chRun (lCh0 c) n.toNat).ch (chRun (lCh0 c) n.toNat).cu).2 := rfl
  rw [hr]
  clear hr
  have h0 : lCh0 c = ⟨{ fFirst := (lPick (lBelow c 16777216).2 0 [0, 0, 7, (lBelow c 16777216).1]).1, fSalt := (lGood (lPick (lBelow c 16777216).2 0 [0, 0, 7, (lBelow c 16777216).1]).2).1, fNotes := [] }, 0, (lGood (lPick (lBelow c 16777216).2 0 [0, 0, 7, (lBelow c 16777216).1]).2).2⟩ := rfl
  have hrun := chRun_ok (lCh0_ok hc)
  generalize hS0 : lCh0 c = S0 at *
  have c1 := lBelow_v (GG := GG) c 16777216 hc
  have g1 := lBelow_good hc 16777216
  generalize lBelow c 16777216 = b at *
  have c2 := lPickI_v (GG := GG) b.2 [0, 0, 7, b.1] g1 (by simp) (by simp)
  have g2 := lPick_good g1 (0 : Int) [0, 0, 7, b.1]
  generalize lPick b.2 0 [0, 0, 7, b.1] = f at *
  simp only [intsD, List.map_cons, List.map_nil] at c2
  have c3 := lGood_v (GG := GG) f.2 g2
  generalize lGood f.2 = d at *
  have e0 : chRun S0 0 = ⟨{ fFirst := f.1, fSalt := d.1, fNotes := [] }, 0, d.2⟩ := h0
  clear hS0 h0 g1 g2
  refine W_seq (?_)
  apply W_regS
  · intro K hK
    simp
    repeat' (first | with_reducible exact hK | (with_reducible refine goL_split (fun _ => ?_) (fun _ => ?_) <;> simp) | with_reducible refine And.intro ?_ ?_ | with_reducible exact okay_rfl rfl | with_reducible assumption | omega)
  refine W_seq (?_)
  apply W_regS
  · intro K hK
    simp
    repeat' (first | with_reducible exact hK | (with_reducible refine callQ (c1) ?_; simp) | (with_reducible refine callQ (c2) ?_; simp) | (with_reducible refine callQ (c3) ?_; simp) | (with_reducible refine goL_split (fun _ => ?_) (fun _ => ?_) <;> simp) | with_reducible refine And.intro ?_ ?_ | with_reducible exact okay_rfl rfl | with_reducible assumption | omega)
  refine W_nilP 5 2 rfl rfl rfl ?_
  clear c1 c2 c3
  repeat' (first | refine W_seq ?_ | refine W_skip ?_ | refine W_block ?_ | refine W_exit ?_ | refine pick_pos rfl ?_ | refine pick_neg rfl ?_ | ((first | refine W_regP fun K hK => ?_ | refine W_regPD fun K hK => ?_ | refine W_ret ?_); simp [Fin]) | (with_reducible refine hK _ ?_; clear hK K) | (with_reducible refine goL_split (fun h => ?_) (fun h => ?_) <;> first | (exfalso; simp at h; first | done | omega | contradiction) | ((try simp at h); simp)) | with_reducible refine And.intro ?_ ?_ | with_reducible exact okay_rfl rfl | with_reducible assumption | (refine W_cond rfl (fun h => ?_) (fun h => ?_) <;> first | (exfalso; simp at h; first | done | omega | contradiction) | (exfalso; simp_all; done) | (try simp at h)) | omega)
  refine W_loop (fun k st => ∃ i : Nat, k = n.toNat - i ∧ i ≤ n.toNat ∧
    st = ⟨[], [(0, .ptr 0 0), (1, .d (.int .i64 n)), (4, .ptr 1 0), (5, .ptr 2 0), (6, .d (.int .i64 (chRun S0 i).at_)), (7, .d (.int .i64 i))], [(0, .box [.d (.slc 1 (bytesD (chRun S0 i).cu.b)), .d (.int .i64 (chRun S0 i).cu.i), .d (.int .i64 (chRun S0 i).cu.h)]), (1, .box [.d (.int .i64 0), .d (.int .i64 0), .nil 0 7]), (2, .box [.d (.int .i64 (chRun S0 i).ch.fFirst), .d (.int .i64 (chRun S0 i).ch.fSalt), .sl 3]), (3, .arr 0 0 7 (rNote (chRun S0 i).ch.fNotes))], 4⟩) _ ⟨0, rfl, by omega, ?_⟩ ?_
  · rw [e0]
    simp [gc, closeN, liveA, gcV, gcO, renA, renAs, renO, namesAs, namesA, namesO, posn, rNote]
  rintro k st ⟨i, rfl, hi, rfl⟩
  clear e0
  by_cases hlt : (i : Int) < n
  · obtain ⟨q1, q2, q3, q4⟩ := hrun i (by omega)
    have hs : chRun S0 (i + 1) = chStep (chRun S0 i) := rfl
    generalize chRun S0 i = S at *
    have hst : chStep S = ⟨addC S.ch (lNote (lBelow S.cu 3).2 (S.at_ + (lBelow S.cu 3).1)).1, S.at_ + (lBelow S.cu 3).1, (lNote (lBelow S.cu 3).2 (S.at_ + (lBelow S.cu 3).1)).2⟩ := rfl
    have c4 := lBelow_v (GG := GG) S.cu 3 q1
    have r4 := lBelow_rng S.cu (n := 3) (by omega)
    have g4 := lBelow_good q1 3
    generalize lBelow S.cu 3 = p at *
    have c5 := lNote_v (GG := GG) p.2 (S.at_ + p.1) g4
    obtain ⟨n1, n2⟩ := lNote_small p.2 (S.at_ + p.1)
    obtain ⟨n3, n4⟩ := small_ok n1 n2 ⟨by omega, by omega⟩
    generalize lNote p.2 (S.at_ + p.1) = N at *
    have c6 := s_AddNote_ok (GG := GG) S.ch N.1 q3 n3 (by omega)
    have hi6 := ind_rNote (addC S.ch N.1).fNotes
    have hw : IntKind.i64.wrap (S.at_ + p.1) = S.at_ + p.1 := wrap_id (by omega) (by omega)
    obtain ⟨SC, Sa, Su⟩ := S
    dsimp only at *
    generalize addB SC N.1 = AB at *
    generalize addC SC N.1 = AC at *
    clear n1 n2 n3 n4 r4 q3 q4
    repeat' (first | refine W_seq ?_ | refine W_skip ?_ | refine W_block ?_ | refine W_exit ?_ | refine pick_pos rfl ?_ | refine pick_neg rfl ?_ | ((first | refine W_regP fun K hK => ?_ | refine W_regPD fun K hK => ?_ | refine W_ret ?_ | with_reducible refine callQ (c4) ?_ | with_reducible refine callQ (c5) ?_ | with_reducible refine callQ (c6) ?_); simp [Fin, hlt, hw]) | (with_reducible refine hK _ ?_; clear hK K) | (with_reducible refine goL_split (fun h => ?_) (fun h => ?_) <;> first | (exfalso; simp at h; first | done | omega | contradiction) | ((try simp at h); simp [hlt, hw])) | with_reducible refine And.intro ?_ ?_ | with_reducible exact okay_rfl rfl | with_reducible assumption | (refine W_cond rfl (fun h => ?_) (fun h => ?_) <;> first | (exfalso; simp at h; first | done | omega | contradiction) | (exfalso; simp_all; done) | (try simp at h)) | omega)
    refine ⟨n.toNat - (i + 1), by omega, i + 1, rfl, by omega, ?_⟩
    rw [hs, hst]
    simp [gc, closeN, liveA, gcV, gcO, renA, renAs, renO, namesAs, namesA, namesO, posn]
    exact wrap_id (by omega) (by omega)
  have hie : n.toNat = i := by omega
  rw [hie]
  obtain ⟨q1, q2, q3, q4⟩ := hrun i (by omega)
  generalize chRun S0 i = S at *
  obtain ⟨⟨SF, SS, l⟩, Sa, u⟩ := S
  dsimp only at *
  clear q2 q3 hrun hie
  have hl1 : l.length ≤ 230 * i := by have : (GChain.mk SF SS l).cost = l.length + sumBy GNote.cost l := rfl; omega
  have hll : l.length ≤ 1048576 := by omega
  clear q4 hl1 hi
  have hB : lChB ⟨SF, SS, l⟩ u = if (lOnce u 5).1 = true ∧ 0 < l.length then
      (bendN ⟨SF, SS, l⟩ (lBelow (lOnce u 5).2 (l.length : Nat)).1.toNat (lBelow (lBelow (lOnce u 5).2 (l.length : Nat)).2 6).1 (lPick (lBelow (lBelow (lOnce u 5).2 (l.length : Nat)).2 6).2 0 [-1, 0]).1,
        if (lBelow (lBelow (lOnce u 5).2 (l.length : Nat)).2 6).1 = 5 then (lPick (lBelow (lBelow (lOnce u 5).2 (l.length : Nat)).2 6).2 0 [-1, 0]).2 else (lBelow (lBelow (lOnce u 5).2 (l.length : Nat)).2 6).2)
    else (⟨SF, SS, l⟩, (lOnce u 5).2) := rfl
  have hiN := ind_rNote l
  have c4 := lOnce_v (GG := GG) u 5 q1
  have g4 := lOnce_good q1 5
  generalize lOnce u 5 = o at *
  obtain ⟨o1, o2⟩ := o
  dsimp only at *
  have hC : ∀ (d : GChain) (v : Cur), lChC d v = ((if (lOnce v 30).1 = true then { d with fFirst := -1 } else d), (lOnce v 30).2) := fun _ _ => rfl
  by_cases hon : o1 = true ∧ 0 < l.length
  rotate_left
  · rw [if_neg hon] at hB
    rw [hB, hC]
    clear hB hC
    dsimp only
    have c5 := lOnce_v (GG := GG) o2 30 g4
    generalize lOnce o2 30 = p at *
    obtain ⟨p1, p2⟩ := p
    cases o1
    · cases p1
      · repeat' (first | refine W_seq ?_ | refine W_skip ?_ | refine W_block ?_ | refine W_exit ?_ | refine pick_pos rfl ?_ | refine pick_neg rfl ?_ | ((first | refine W_regP fun K hK => ?_ | refine W_regPD fun K hK => ?_ | refine W_ret ?_ | with_reducible refine callQ (c4) ?_ | with_reducible refine callQ (c5) ?_); simp [Fin, hlt]) | (with_reducible refine hK _ ?_; clear hK K) | (with_reducible refine goL_split (fun h => ?_) (fun h => ?_) <;> first | (exfalso; simp at h; first | done | omega | contradiction) | ((try simp at h); simp [hlt])) | with_reducible refine And.intro ?_ ?_ | with_reducible exact okay_rfl rfl | with_reducible assumption | (refine W_cond rfl (fun h => ?_) (fun h => ?_) <;> first | (exfalso; simp at h; first | done | omega | contradiction) | (exfalso; simp_all; done) | (try simp at h)) | omega)
      · repeat' (first | refine W_seq ?_ | refine W_skip ?_ | refine W_block ?_ | refine W_exit ?_ | refine pick_pos rfl ?_ | refine pick_neg rfl ?_ | ((first | refine W_regP fun K hK => ?_ | refine W_regPD fun K hK => ?_ | refine W_ret ?_ | with_reducible refine callQ (c4) ?_ | with_reducible refine callQ (c5) ?_); simp [Fin, hlt]) | (with_reducible refine hK _ ?_; clear hK K) | (with_reducible refine goL_split (fun h => ?_) (fun h => ?_) <;> first | (exfalso; simp at h; first | done | omega | contradiction) | ((try simp at h); simp [hlt])) | with_reducible refine And.intro ?_ ?_ | with_reducible exact okay_rfl rfl | with_reducible assumption | (refine W_cond rfl (fun h => ?_) (fun h => ?_) <;> first | (exfalso; simp at h; first | done | omega | contradiction) | (exfalso; simp_all; done) | (try simp at h)) | omega)
    · have hl0 : l = [] := by cases l with | nil => rfl | cons a t => exact absurd ⟨rfl, by simp⟩ hon
      subst hl0
      cases p1
      · repeat' (first | refine W_seq ?_ | refine W_skip ?_ | refine W_block ?_ | refine W_exit ?_ | refine pick_pos rfl ?_ | refine pick_neg rfl ?_ | ((first | refine W_regP fun K hK => ?_ | refine W_regPD fun K hK => ?_ | refine W_ret ?_ | with_reducible refine callQ (c4) ?_ | with_reducible refine callQ (c5) ?_); simp [Fin, hlt]) | (with_reducible refine hK _ ?_; clear hK K) | (with_reducible refine goL_split (fun h => ?_) (fun h => ?_) <;> first | (exfalso; simp at h; first | done | omega | contradiction) | ((try simp at h); simp [hlt])) | with_reducible refine And.intro ?_ ?_ | with_reducible exact okay_rfl rfl | with_reducible assumption | (refine W_cond rfl (fun h => ?_) (fun h => ?_) <;> first | (exfalso; simp at h; first | done | omega | contradiction) | (exfalso; simp_all; done) | (try simp at h)) | omega)
      · repeat' (first | refine W_seq ?_ | refine W_skip ?_ | refine W_block ?_ | refine W_exit ?_ | refine pick_pos rfl ?_ | refine pick_neg rfl ?_ | ((first | refine W_regP fun K hK => ?_ | refine W_regPD fun K hK => ?_ | refine W_ret ?_ | with_reducible refine callQ (c4) ?_ | with_reducible refine callQ (c5) ?_); simp [Fin, hlt]) | (with_reducible refine hK _ ?_; clear hK K) | (with_reducible refine goL_split (fun h => ?_) (fun h => ?_) <;> first | (exfalso; simp at h; first | done | omega | contradiction) | ((try simp at h); simp [hlt])) | with_reducible refine And.intro ?_ ?_ | with_reducible exact okay_rfl rfl | with_reducible assumption | (refine W_cond rfl (fun h => ?_) (fun h => ?_) <;> first | (exfalso; simp at h; first | done | omega | contradiction) | (exfalso; simp_all; done) | (try simp at h)) | omega)
  obtain ⟨rfl, hlp⟩ := hon
  rw [if_pos ⟨rfl, hlp⟩] at hB
  have hgl : ((0 : Int) < (l.length : Nat)) = True := by simp; omega
  have c5 := lBelow_v (GG := GG) o2 (l.length : Nat) g4
  have g5 := lBelow_good g4 (l.length : Nat)
  have r5 := lBelow_rng o2 (n := (l.length : Nat)) (by omega)
  generalize lBelow o2 (l.length : Nat) = ii at *
  obtain ⟨ix, i2⟩ := ii
  dsimp only at *
  obtain ⟨j, rfl⟩ := Int.eq_ofNat_of_zero_le r5.1
  rw [Int.toNat_natCast] at hB
  have hj : j < l.length := by omega
  have hg := List.getElem?_eq_getElem hj
  generalize l[j] = x at hg
  have c6 := lBelow_v (GG := GG) i2 6 g5
  have g6 := lBelow_good g5 6
  have r6 := lBelow_rng i2 (n := 6) (by omega)
  generalize lBelow i2 6 = kk at *
  obtain ⟨k1, k2⟩ := kk
  dsimp only at *
  by_cases e0 : k1 = 0
  · subst e0
    have hb : bendN ⟨SF, SS, l⟩ j 0 (lPick k2 0 [-1, 0]).1 = ⟨SF, SS, l.set j { x with fCode := IntKind.i64.wrap (x.fCode + 1) }⟩ := by
      unfold bendN setN; simp [hg]
    rw [hb, if_neg (by omega)] at hB
    rw [hB, hC]
    clear hB hC hb r5 r6
    dsimp only
    have c7 := lOnce_v (GG := GG) k2 30 g6
    generalize lOnce k2 30 = p at *
    obtain ⟨p1, p2⟩ := p
    obtain ⟨x1, x2, x3, x4, x5, x6, x7⟩ := x
    have hset : (rNote l).set j (GNote.row ⟨x1, x2, x3, x4, x5, IntKind.i64.wrap (x6 + 1), x7⟩) = rNote (l.set j ⟨x1, x2, x3, x4, x5, IntKind.i64.wrap (x6 + 1), x7⟩) := by unfold rNote; rw [List.map_set]
    cases p1
    · repeat' (first | refine W_seq ?_ | refine W_skip ?_ | refine W_block ?_ | refine W_exit ?_ | refine pick_pos rfl ?_ | refine pick_neg rfl ?_ | ((first | refine W_regP fun K hK => ?_ | refine W_regPD fun K hK => ?_ | refine W_ret ?_ | with_reducible refine callQ (c4) ?_ | with_reducible refine callQ (c5) ?_ | with_reducible refine callQ (c6) ?_ | with_reducible refine callQ (c7) ?_); simp [Fin, hlt, hgl, hg]) | (with_reducible refine hK _ ?_; clear hK K) | (with_reducible refine goL_split (fun h => ?_) (fun h => ?_) <;> first | (exfalso; simp at h; first | done | omega | contradiction) | ((try simp at h); simp [hlt, hgl, hg])) | with_reducible refine And.intro ?_ ?_ | with_reducible exact okay_rfl rfl | with_reducible assumption | (refine W_cond rfl (fun h => ?_) (fun h => ?_) <;> first | (exfalso; simp at h; first | done | omega | contradiction) | (exfalso; simp_all; done) | (try simp at h)) | omega)
      all_goals first | exact hj | exact hset
    · repeat' (first | refine W_seq ?_ | refine W_skip ?_ | refine W_block ?_ | refine W_exit ?_ | refine pick_pos rfl ?_ | refine pick_neg rfl ?_ | ((first | refine W_regP fun K hK => ?_ | refine W_regPD fun K hK => ?_ | refine W_ret ?_ | with_reducible refine callQ (c4) ?_ | with_reducible refine callQ (c5) ?_ | with_reducible refine callQ (c6) ?_ | with_reducible refine callQ (c7) ?_); simp [Fin, hlt, hgl, hg]) | (with_reducible refine hK _ ?_; clear hK K) | (with_reducible refine goL_split (fun h => ?_) (fun h => ?_) <;> first | (exfalso; simp at h; first | done | omega | contradiction) | ((try simp at h); simp [hlt, hgl, hg])) | with_reducible refine And.intro ?_ ?_ | with_reducible exact okay_rfl rfl | with_reducible assumption | (refine W_cond rfl (fun h => ?_) (fun h => ?_) <;> first | (exfalso; simp at h; first | done | omega | contradiction) | (exfalso; simp_all; done) | (try simp at h)) | omega)
      all_goals first | exact hj | exact hset
  by_cases e1 : k1 = 1
  · subst e1
    have hb : bendN ⟨SF, SS, l⟩ j 1 (lPick k2 0 [-1, 0]).1 = ⟨SF, SS, l.set j { x with fSum := IntKind.i64.wrap (x.fSum + 1) }⟩ := by
      unfold bendN setN; simp [hg]
    rw [hb, if_neg (by omega)] at hB
    rw [hB, hC]
    clear hB hC hb r5 r6
    dsimp only
    have c7 := lOnce_v (GG := GG) k2 30 g6
    generalize lOnce k2 30 = p at *
    obtain ⟨p1, p2⟩ := p
    obtain ⟨x1, x2, x3, x4, x5, x6, x7⟩ := x
    have hset : (rNote l).set j (GNote.row ⟨x1, x2, x3, x4, x5, x6, IntKind.i64.wrap (x7 + 1)⟩) = rNote (l.set j ⟨x1, x2, x3, x4, x5, x6, IntKind.i64.wrap (x7 + 1)⟩) := by unfold rNote; rw [List.map_set]
    cases p1
    · repeat' (first | refine W_seq ?_ | refine W_skip ?_ | refine W_block ?_ | refine W_exit ?_ | refine pick_pos rfl ?_ | refine pick_neg rfl ?_ | ((first | refine W_regP fun K hK => ?_ | refine W_regPD fun K hK => ?_ | refine W_ret ?_ | with_reducible refine callQ (c4) ?_ | with_reducible refine callQ (c5) ?_ | with_reducible refine callQ (c6) ?_ | with_reducible refine callQ (c7) ?_); simp [Fin, hlt, hgl, hg]) | (with_reducible refine hK _ ?_; clear hK K) | (with_reducible refine goL_split (fun h => ?_) (fun h => ?_) <;> first | (exfalso; simp at h; first | done | omega | contradiction) | ((try simp at h); simp [hlt, hgl, hg])) | with_reducible refine And.intro ?_ ?_ | with_reducible exact okay_rfl rfl | with_reducible assumption | (refine W_cond rfl (fun h => ?_) (fun h => ?_) <;> first | (exfalso; simp at h; first | done | omega | contradiction) | (exfalso; simp_all; done) | (try simp at h)) | omega)
      all_goals first | exact hj | exact hset
    · repeat' (first | refine W_seq ?_ | refine W_skip ?_ | refine W_block ?_ | refine W_exit ?_ | refine pick_pos rfl ?_ | refine pick_neg rfl ?_ | ((first | refine W_regP fun K hK => ?_ | refine W_regPD fun K hK => ?_ | refine W_ret ?_ | with_reducible refine callQ (c4) ?_ | with_reducible refine callQ (c5) ?_ | with_reducible refine callQ (c6) ?_ | with_reducible refine callQ (c7) ?_); simp [Fin, hlt, hgl, hg]) | (with_reducible refine hK _ ?_; clear hK K) | (with_reducible refine goL_split (fun h => ?_) (fun h => ?_) <;> first | (exfalso; simp at h; first | done | omega | contradiction) | ((try simp at h); simp [hlt, hgl, hg])) | with_reducible refine And.intro ?_ ?_ | with_reducible exact okay_rfl rfl | with_reducible assumption | (refine W_cond rfl (fun h => ?_) (fun h => ?_) <;> first | (exfalso; simp at h; first | done | omega | contradiction) | (exfalso; simp_all; done) | (try simp at h)) | omega)
      all_goals first | exact hj | exact hset
  by_cases e2 : k1 = 2
  · subst e2
    have hb : bendN ⟨SF, SS, l⟩ j 2 (lPick k2 0 [-1, 0]).1 = ⟨SF, SS, l.set j { x with fWhat := [111, 116, 104, 101, 114] }⟩ := by
      unfold bendN setN; simp [hg]
    rw [hb, if_neg (by omega)] at hB
    rw [hB, hC]
    clear hB hC hb r5 r6
    dsimp only
    have c7 := lOnce_v (GG := GG) k2 30 g6
    generalize lOnce k2 30 = p at *
    obtain ⟨p1, p2⟩ := p
    obtain ⟨x1, x2, x3, x4, x5, x6, x7⟩ := x
    have hset : (rNote l).set j (GNote.row ⟨x1, x2, x3, [111, 116, 104, 101, 114], x5, x6, x7⟩) = rNote (l.set j ⟨x1, x2, x3, [111, 116, 104, 101, 114], x5, x6, x7⟩) := by unfold rNote; rw [List.map_set]
    cases p1
    · repeat' (first | refine W_seq ?_ | refine W_skip ?_ | refine W_block ?_ | refine W_exit ?_ | refine pick_pos rfl ?_ | refine pick_neg rfl ?_ | ((first | refine W_regP fun K hK => ?_ | refine W_regPD fun K hK => ?_ | refine W_ret ?_ | with_reducible refine callQ (c4) ?_ | with_reducible refine callQ (c5) ?_ | with_reducible refine callQ (c6) ?_ | with_reducible refine callQ (c7) ?_); simp [Fin, hlt, hgl, hg]) | (with_reducible refine hK _ ?_; clear hK K) | (with_reducible refine goL_split (fun h => ?_) (fun h => ?_) <;> first | (exfalso; simp at h; first | done | omega | contradiction) | ((try simp at h); simp [hlt, hgl, hg])) | with_reducible refine And.intro ?_ ?_ | with_reducible exact okay_rfl rfl | with_reducible assumption | (refine W_cond rfl (fun h => ?_) (fun h => ?_) <;> first | (exfalso; simp at h; first | done | omega | contradiction) | (exfalso; simp_all; done) | (try simp at h)) | omega)
      all_goals first | exact hj | exact hset
    · repeat' (first | refine W_seq ?_ | refine W_skip ?_ | refine W_block ?_ | refine W_exit ?_ | refine pick_pos rfl ?_ | refine pick_neg rfl ?_ | ((first | refine W_regP fun K hK => ?_ | refine W_regPD fun K hK => ?_ | refine W_ret ?_ | with_reducible refine callQ (c4) ?_ | with_reducible refine callQ (c5) ?_ | with_reducible refine callQ (c6) ?_ | with_reducible refine callQ (c7) ?_); simp [Fin, hlt, hgl, hg]) | (with_reducible refine hK _ ?_; clear hK K) | (with_reducible refine goL_split (fun h => ?_) (fun h => ?_) <;> first | (exfalso; simp at h; first | done | omega | contradiction) | ((try simp at h); simp [hlt, hgl, hg])) | with_reducible refine And.intro ?_ ?_ | with_reducible exact okay_rfl rfl | with_reducible assumption | (refine W_cond rfl (fun h => ?_) (fun h => ?_) <;> first | (exfalso; simp at h; first | done | omega | contradiction) | (exfalso; simp_all; done) | (try simp at h)) | omega)
      all_goals first | exact hj | exact hset
  by_cases e3 : k1 = 3
  · subst e3
    have hb : bendN ⟨SF, SS, l⟩ j 3 (lPick k2 0 [-1, 0]).1 = ⟨SF, SS, l.tail⟩ := by
      unfold bendN; simp
    rw [hb, if_neg (by omega)] at hB
    rw [hB, hC]
    clear hB hC hb r5 r6
    dsimp only
    have c7 := lOnce_v (GG := GG) k2 30 g6
    generalize lOnce k2 30 = p at *
    obtain ⟨p1, p2⟩ := p
    have h1l : (1 ≤ l.length) = True := by simp; omega
    have hdr : (List.take l.length (rNote l)).tail = rNote l.tail := by rw [← rNote_len l, List.take_length]; unfold rNote; rw [List.map_tail]
    cases p1
    · repeat' (first | refine W_seq ?_ | refine W_skip ?_ | refine W_block ?_ | refine W_exit ?_ | refine pick_pos rfl ?_ | refine pick_neg rfl ?_ | ((first | refine W_regP fun K hK => ?_ | refine W_regPD fun K hK => ?_ | refine W_ret ?_ | with_reducible refine callQ (c4) ?_ | with_reducible refine callQ (c5) ?_ | with_reducible refine callQ (c6) ?_ | with_reducible refine callQ (c7) ?_); simp [Fin, hlt, hgl, h1l, hdr]) | (with_reducible refine hK _ ?_; clear hK K) | (with_reducible refine goL_split (fun h => ?_) (fun h => ?_) <;> first | (exfalso; simp at h; first | done | omega | contradiction) | ((try simp at h); simp [hlt, hgl, h1l, hdr])) | with_reducible refine And.intro ?_ ?_ | with_reducible exact okay_rfl rfl | with_reducible assumption | (refine W_cond rfl (fun h => ?_) (fun h => ?_) <;> first | (exfalso; simp at h; first | done | omega | contradiction) | (exfalso; simp_all; done) | (try simp at h)) | omega)
    · repeat' (first | refine W_seq ?_ | refine W_skip ?_ | refine W_block ?_ | refine W_exit ?_ | refine pick_pos rfl ?_ | refine pick_neg rfl ?_ | ((first | refine W_regP fun K hK => ?_ | refine W_regPD fun K hK => ?_ | refine W_ret ?_ | with_reducible refine callQ (c4) ?_ | with_reducible refine callQ (c5) ?_ | with_reducible refine callQ (c6) ?_ | with_reducible refine callQ (c7) ?_); simp [Fin, hlt, hgl, h1l, hdr]) | (with_reducible refine hK _ ?_; clear hK K) | (with_reducible refine goL_split (fun h => ?_) (fun h => ?_) <;> first | (exfalso; simp at h; first | done | omega | contradiction) | ((try simp at h); simp [hlt, hgl, h1l, hdr])) | with_reducible refine And.intro ?_ ?_ | with_reducible exact okay_rfl rfl | with_reducible assumption | (refine W_cond rfl (fun h => ?_) (fun h => ?_) <;> first | (exfalso; simp at h; first | done | omega | contradiction) | (exfalso; simp_all; done) | (try simp at h)) | omega)
  by_cases e4 : k1 = 4
  · subst e4
    have hb : bendN ⟨SF, SS, l⟩ j 4 (lPick k2 0 [-1, 0]).1 = ⟨SF, SS, l.set j { x with fSeq := IntKind.i64.wrap (x.fSeq + 1) }⟩ := by
      unfold bendN setN; simp [hg]
    rw [hb, if_neg (by omega)] at hB
    rw [hB, hC]
    clear hB hC hb r5 r6
    dsimp only
    have c7 := lOnce_v (GG := GG) k2 30 g6
    generalize lOnce k2 30 = p at *
    obtain ⟨p1, p2⟩ := p
    obtain ⟨x1, x2, x3, x4, x5, x6, x7⟩ := x
    have hset : (rNote l).set j (GNote.row ⟨IntKind.i64.wrap (x1 + 1), x2, x3, x4, x5, x6, x7⟩) = rNote (l.set j ⟨IntKind.i64.wrap (x1 + 1), x2, x3, x4, x5, x6, x7⟩) := by unfold rNote; rw [List.map_set]
    cases p1
    · repeat' (first | refine W_seq ?_ | refine W_skip ?_ | refine W_block ?_ | refine W_exit ?_ | refine pick_pos rfl ?_ | refine pick_neg rfl ?_ | ((first | refine W_regP fun K hK => ?_ | refine W_regPD fun K hK => ?_ | refine W_ret ?_ | with_reducible refine callQ (c4) ?_ | with_reducible refine callQ (c5) ?_ | with_reducible refine callQ (c6) ?_ | with_reducible refine callQ (c7) ?_); simp [Fin, hlt, hgl, hg]) | (with_reducible refine hK _ ?_; clear hK K) | (with_reducible refine goL_split (fun h => ?_) (fun h => ?_) <;> first | (exfalso; simp at h; first | done | omega | contradiction) | ((try simp at h); simp [hlt, hgl, hg])) | with_reducible refine And.intro ?_ ?_ | with_reducible exact okay_rfl rfl | with_reducible assumption | (refine W_cond rfl (fun h => ?_) (fun h => ?_) <;> first | (exfalso; simp at h; first | done | omega | contradiction) | (exfalso; simp_all; done) | (try simp at h)) | omega)
      all_goals first | exact hj | exact hset
    · repeat' (first | refine W_seq ?_ | refine W_skip ?_ | refine W_block ?_ | refine W_exit ?_ | refine pick_pos rfl ?_ | refine pick_neg rfl ?_ | ((first | refine W_regP fun K hK => ?_ | refine W_regPD fun K hK => ?_ | refine W_ret ?_ | with_reducible refine callQ (c4) ?_ | with_reducible refine callQ (c5) ?_ | with_reducible refine callQ (c6) ?_ | with_reducible refine callQ (c7) ?_); simp [Fin, hlt, hgl, hg]) | (with_reducible refine hK _ ?_; clear hK K) | (with_reducible refine goL_split (fun h => ?_) (fun h => ?_) <;> first | (exfalso; simp at h; first | done | omega | contradiction) | ((try simp at h); simp [hlt, hgl, hg])) | with_reducible refine And.intro ?_ ?_ | with_reducible exact okay_rfl rfl | with_reducible assumption | (refine W_cond rfl (fun h => ?_) (fun h => ?_) <;> first | (exfalso; simp at h; first | done | omega | contradiction) | (exfalso; simp_all; done) | (try simp at h)) | omega)
      all_goals first | exact hj | exact hset
  have e5 : k1 = 5 := by omega
  subst e5
  have c8 := lPickI_v (GG := GG) k2 [-1, 0] g6 (by simp) (by simp)
  have g8 := lPick_good g6 (0 : Int) [-1, 0]
  generalize lPick k2 0 [-1, 0] = q at *
  simp only [intsD, List.map_cons, List.map_nil] at c8
  have hb : bendN ⟨SF, SS, l⟩ j 5 q.1 = ⟨SF, SS, l.set j { x with fAt := q.1 }⟩ := by
    unfold bendN setN; simp [hg]
  rw [hb, if_pos rfl] at hB
  rw [hB, hC]
  clear hB hC hb r5 r6
  dsimp only
  have c9 := lOnce_v (GG := GG) q.2 30 g8
  generalize lOnce q.2 30 = p at *
  obtain ⟨p1, p2⟩ := p
  obtain ⟨q1, q2⟩ := q
  obtain ⟨x1, x2, x3, x4, x5, x6, x7⟩ := x
  have hset : (rNote l).set j (GNote.row ⟨x1, q1, x3, x4, x5, x6, x7⟩) = rNote (l.set j ⟨x1, q1, x3, x4, x5, x6, x7⟩) := by unfold rNote; rw [List.map_set]
  cases p1
  · repeat' (first | refine W_seq ?_ | refine W_skip ?_ | refine W_block ?_ | refine W_exit ?_ | refine pick_pos rfl ?_ | refine pick_neg rfl ?_ | ((first | refine W_regP fun K hK => ?_ | refine W_regPD fun K hK => ?_ | refine W_ret ?_ | with_reducible refine callQ (c4) ?_ | with_reducible refine callQ (c5) ?_ | with_reducible refine callQ (c6) ?_ | with_reducible refine callQ (c8) ?_ | with_reducible refine callQ (c9) ?_); simp [Fin, hlt, hgl, hg]) | (with_reducible refine hK _ ?_; clear hK K) | (with_reducible refine goL_split (fun h => ?_) (fun h => ?_) <;> first | (exfalso; simp at h; first | done | omega | contradiction) | ((try simp at h); simp [hlt, hgl, hg])) | with_reducible refine And.intro ?_ ?_ | with_reducible exact okay_rfl rfl | with_reducible assumption | (refine W_cond rfl (fun h => ?_) (fun h => ?_) <;> first | (exfalso; simp at h; first | done | omega | contradiction) | (exfalso; simp_all; done) | (try simp at h)) | omega)
    all_goals first | exact hj | exact hset
  · repeat' (first | refine W_seq ?_ | refine W_skip ?_ | refine W_block ?_ | refine W_exit ?_ | refine pick_pos rfl ?_ | refine pick_neg rfl ?_ | ((first | refine W_regP fun K hK => ?_ | refine W_regPD fun K hK => ?_ | refine W_ret ?_ | with_reducible refine callQ (c4) ?_ | with_reducible refine callQ (c5) ?_ | with_reducible refine callQ (c6) ?_ | with_reducible refine callQ (c8) ?_ | with_reducible refine callQ (c9) ?_); simp [Fin, hlt, hgl, hg]) | (with_reducible refine hK _ ?_; clear hK K) | (with_reducible refine goL_split (fun h => ?_) (fun h => ?_) <;> first | (exfalso; simp at h; first | done | omega | contradiction) | ((try simp at h); simp [hlt, hgl, hg])) | with_reducible refine And.intro ?_ ?_ | with_reducible exact okay_rfl rfl | with_reducible assumption | (refine W_cond rfl (fun h => ?_) (fun h => ?_) <;> first | (exfalso; simp at h; first | done | omega | contradiction) | (exfalso; simp_all; done) | (try simp at h)) | omega)
    all_goals first | exact hj | exact hset

theorem lOne_v [MaxL GG] (code : List UInt8) (h : code.length ≤ 1048577) : Valid PP GG F_S_l15DrawOne [.d (.slc 1 (bytesD code))] (.tup [.box (lOne code).2.o, .agg (lOne code).1.o]) [none] := by
  refine v_S_l15DrawOne [.box (lOne code).2.o, .agg (lOne code).1.o] rfl rfl ?_
  have hr : lOne code = if (lOnce (lBelow (lNew code) (lSize code.length 20)).2 30).1 = true then lChain (lBelow (lOnce (lBelow (lNew code) (lSize code.length 20)).2 30).2 4).2 (119 + (lBelow (lOnce (lBelow (lNew code) (lSize code.length 20)).2 30).2 4).1) else lChain (lOnce (lBelow (lNew code) (lSize code.length 20)).2 30).2 (lBelow (lNew code) (lSize code.length 20)).1 := rfl
  have c1 := lNew_v (GG := GG) code h
  have g1 := lNew_good h
  have c2 := lSize_v (GG := GG) code 20 h
  have z1 : lSize code.length 20 ≤ 20 := by unfold lSize; split <;> omega
  generalize lNew code = u at *
  generalize lSize code.length 20 = z at *
  have c3 := lBelow_v (GG := GG) u z g1
  have g2 := lBelow_good g1 z
  have r2 := lBelow_rng0 u z
  generalize lBelow u z = n at *
  have c4 := lOnce_v (GG := GG) n.2 30 g2
  have g3 := lOnce_good g2 30
  generalize lOnce n.2 30 = o at *
  obtain ⟨o1, o2⟩ := o
  dsimp only at g3
  have hn : n.1 ≤ 122 := by split at r2 <;> omega
  clear r2
  cases o1
  · rw [if_neg (by simp)] at hr
    have c5 := lChain_v (GG := GG) o2 n.1 g3 hn
    have hi := ind_rNote (lChain o2 n.1).1.fNotes
    rw [hr]
    clear hr
    generalize lChain o2 n.1 = k at *
    repeat' (first | refine W_seq ?_ | refine W_skip ?_ | refine W_block ?_ | refine W_exit ?_ | refine pick_pos rfl ?_ | refine pick_neg rfl ?_ | ((first | refine W_regP fun K hK => ?_ | refine W_regPD fun K hK => ?_ | refine W_ret ?_ | with_reducible refine callQ (c1) ?_ | with_reducible refine callQ (c2) ?_ | with_reducible refine callQ (c3) ?_ | with_reducible refine callQ (c4) ?_ | with_reducible refine callQ (c5) ?_); simp [Fin]) | (with_reducible refine hK _ ?_; clear hK K) | (with_reducible refine goL_split (fun h => ?_) (fun h => ?_) <;> first | (exfalso; simp at h; first | done | omega | contradiction) | ((try simp at h); simp)) | with_reducible refine And.intro ?_ ?_ | with_reducible exact okay_rfl rfl | with_reducible assumption | (refine W_cond rfl (fun h => ?_) (fun h => ?_) <;> first | (exfalso; simp at h; first | done | omega | contradiction) | (exfalso; simp_all; done) | (try simp at h)) | omega)
  · rw [if_pos rfl] at hr
    dsimp only at hr
    have c5 := lBelow_v (GG := GG) o2 4 g3
    have g4 := lBelow_good g3 4
    have r4 := lBelow_rng o2 (n := 4) (by omega)
    generalize lBelow o2 4 = m at *
    have c6 := lChain_v (GG := GG) m.2 (119 + m.1) g4 (by omega)
    have hi := ind_rNote (lChain m.2 (119 + m.1)).1.fNotes
    rw [hr]
    clear hr
    generalize lChain m.2 (119 + m.1) = k at *
    have hw : IntKind.i64.wrap (119 + m.1) = 119 + m.1 := wrap_id (by omega) (by omega)
    repeat' (first | refine W_seq ?_ | refine W_skip ?_ | refine W_block ?_ | refine W_exit ?_ | refine pick_pos rfl ?_ | refine pick_neg rfl ?_ | ((first | refine W_regP fun K hK => ?_ | refine W_regPD fun K hK => ?_ | refine W_ret ?_ | with_reducible refine callQ (c1) ?_ | with_reducible refine callQ (c2) ?_ | with_reducible refine callQ (c3) ?_ | with_reducible refine callQ (c4) ?_ | with_reducible refine callQ (c5) ?_ | with_reducible refine callQ (c6) ?_); simp [Fin, hw]) | (with_reducible refine hK _ ?_; clear hK K) | (with_reducible refine goL_split (fun h => ?_) (fun h => ?_) <;> first | (exfalso; simp at h; first | done | omega | contradiction) | ((try simp at h); simp [hw])) | with_reducible refine And.intro ?_ ?_ | with_reducible exact okay_rfl rfl | with_reducible assumption | (refine W_cond rfl (fun h => ?_) (fun h => ?_) <;> first | (exfalso; simp at h; first | done | omega | contradiction) | (exfalso; simp_all; done) | (try simp at h)) | omega)

theorem big_ok (code : List UInt8) (h : code.length ≤ maxLen) : Valid PP GG F_L_big [.d (.slc 1 (bytesD code))] (.d (.bool (decide (1048576 < code.length)))) [none] := by
  refine v_L_big [.d (.bool (decide (1048576 < code.length)))] rfl rfl ?_
  have hbl := bytesD_len code
  have hd : decide ((1048576 : Int) < (code.length : Nat)) = decide (1048576 < code.length) := decide_eq_decide.2 (by omega)
  repeat' (first | refine W_seq ?_ | refine W_skip ?_ | refine W_block ?_ | refine W_exit ?_ | refine pick_pos rfl ?_ | refine pick_neg rfl ?_ | ((first | refine W_regP fun K hK => ?_ | refine W_regPD fun K hK => ?_ | refine W_ret ?_); simp [Fin, hbl, hd]) | (with_reducible refine hK _ ?_; clear hK K) | (with_reducible refine goL_split (fun h => ?_) (fun h => ?_) <;> first | (exfalso; simp at h; first | done | omega | contradiction) | ((try simp at h); simp [hbl, hd])) | with_reducible refine And.intro ?_ ?_ | with_reducible exact okay_rfl rfl | with_reducible assumption | (refine W_cond rfl (fun h => ?_) (fun h => ?_) <;> first | (exfalso; simp at h; first | done | omega | contradiction) | (exfalso; simp_all; done) | (try simp at h)) | omega)

def atV (code : List UInt8) (i : Nat) : Int := if i < code.length then ((code.getD i 0).toNat : Nat) else ((i * 13 + code.length * 5) % 256 : Nat)

theorem atV_rng (code : List UInt8) (i : Nat) : 0 ≤ atV code i ∧ atV code i ≤ 255 := by
  unfold atV
  split
  · have := (code.getD i 0).toNat_lt; omega
  · omega

theorem at_ok (code : List UInt8) (i : Nat) (h : code.length ≤ 1048577) (hi : i ≤ 1000) : Valid PP GG F_L_at [.d (.slc 1 (bytesD code)), .d (.int .i64 i)] (.d (.int .i64 (atV code i))) [none, none] := by
  refine v_L_at [.d (.int .i64 (atV code i))] rfl rfl ?_
  have hbl := bytesD_len code
  by_cases hlt : i < code.length
  · have hg := List.getElem?_eq_getElem hlt
    have hv : atV code i = ((code[i].toNat : Nat) : Int) := by unfold atV; rw [if_pos hlt, List.getD_eq_getElem?_getD, hg]; rfl
    rw [hv]
    generalize code[i] = x at hg
    have hx := x.toNat_lt
    have hw : IntKind.i64.wrap (x.toNat : Nat) = (x.toNat : Nat) := wrap_id (by omega) (by omega)
    repeat' (first | refine W_seq ?_ | refine W_skip ?_ | refine W_block ?_ | refine W_exit ?_ | refine pick_pos rfl ?_ | refine pick_neg rfl ?_ | ((first | refine W_regP fun K hK => ?_ | refine W_regPD fun K hK => ?_ | refine W_ret ?_); simp [Fin, hbl, hg, hw]) | (with_reducible refine hK _ ?_; clear hK K) | (with_reducible refine goL_split (fun h => ?_) (fun h => ?_) <;> first | (exfalso; simp at h; first | done | omega | contradiction) | ((try simp at h); simp [hbl, hg, hw])) | with_reducible refine And.intro ?_ ?_ | with_reducible exact okay_rfl rfl | with_reducible assumption | (refine W_cond rfl (fun h => ?_) (fun h => ?_) <;> first | (exfalso; simp at h; first | done | omega | contradiction) | (exfalso; simp_all; done) | (try simp at h)) | omega)
  · have hv : atV code i = ((i * 13 + code.length * 5) % 256 : Nat) := by unfold atV; rw [if_neg hlt]
    rw [hv]
    have hw1 : IntKind.i64.wrap ((i : Int) * 13) = (i : Int) * 13 := wrap_id (by omega) (by omega)
    have hw2 : IntKind.i64.wrap ((code.length : Int) * 5) = (code.length : Int) * 5 := wrap_id (by omega) (by omega)
    have hw3 : IntKind.i64.wrap ((i : Int) * 13 + (code.length : Int) * 5) = (i : Int) * 13 + (code.length : Int) * 5 := wrap_id (by omega) (by omega)
    have hm : Int.tmod ((i : Int) * 13 + (code.length : Int) * 5) 256 = (((i * 13 + code.length * 5) % 256 : Nat) : Int) := by
      rw [show (i : Int) * 13 + (code.length : Int) * 5 = ((i * 13 + code.length * 5 : Nat) : Int) by omega]
      rfl
    repeat' (first | refine W_seq ?_ | refine W_skip ?_ | refine W_block ?_ | refine W_exit ?_ | refine pick_pos rfl ?_ | refine pick_neg rfl ?_ | ((first | refine W_regP fun K hK => ?_ | refine W_regPD fun K hK => ?_ | refine W_ret ?_); simp [Fin, hbl, hw1, hw2, hw3, hm]) | (with_reducible refine hK _ ?_; clear hK K) | (with_reducible refine goL_split (fun h => ?_) (fun h => ?_) <;> first | (exfalso; simp at h; first | done | omega | contradiction) | ((try simp at h); simp [hbl, hw1, hw2, hw3, hm])) | with_reducible refine And.intro ?_ ?_ | with_reducible exact okay_rfl rfl | with_reducible assumption | (refine W_cond rfl (fun h => ?_) (fun h => ?_) <;> first | (exfalso; simp at h; first | done | omega | contradiction) | (exfalso; simp_all; done) | (try simp at h)) | omega)

def altL (code : List UInt8) (k : Nat) : List UInt8 := UInt8.ofNat k :: code.take 3000

theorem altL_len (code : List UInt8) (k : Nat) : (altL code k).length ≤ 3001 := by
  unfold altL; simp; omega

theorem alt_ok (code : List UInt8) (k : Nat) (h : code.length ≤ 1048577) (hk : k ≤ 255) : Valid PP GG F_L_alt [.d (.slc 1 (bytesD code)), .d (.int .i64 k)] (.own 0 1 (bytesD (altL code k))) [none, none] := by
  refine v_L_alt [.own 0 1 (bytesD (altL code k))] rfl rfl ?_
  have hbl := bytesD_len code
  have hw : IntKind.u8.wrap (k : Int) = ((UInt8.ofNat k).toNat : Nat) := by
    rw [UInt8.toNat_ofNat', Nat.mod_eq_of_lt (by omega), IntKind.wrap_u8]
    omega
  have hE : ∀ i, bytesD (UInt8.ofNat k :: code.take i) = [.int .u8 ((UInt8.ofNat k).toNat : Nat)] :: bytesD (code.take i) := fun i => rfl
  have hA : altL code k = UInt8.ofNat k :: code.take 3000 := rfl
  rw [hA]
  clear hA
  generalize UInt8.ofNat k = kb at *
  repeat' (first | refine W_seq ?_ | refine W_skip ?_ | refine W_block ?_ | refine W_exit ?_ | refine pick_pos rfl ?_ | refine pick_neg rfl ?_ | ((first | refine W_regP fun K hK => ?_ | refine W_regPD fun K hK => ?_ | refine W_ret ?_); simp [Fin, hw]) | (with_reducible refine hK _ ?_; clear hK K) | (with_reducible refine goL_split (fun h => ?_) (fun h => ?_) <;> first | (exfalso; simp at h; first | done | omega | contradiction) | ((try simp at h); simp [hw])) | with_reducible refine And.intro ?_ ?_ | with_reducible exact okay_rfl rfl | with_reducible assumption | (refine W_cond rfl (fun h => ?_) (fun h => ?_) <;> first | (exfalso; simp at h; first | done | omega | contradiction) | (exfalso; simp_all; done) | (try simp at h)) | omega)
  refine W_loop (fun n st => ∃ i : Nat, n = code.length - i ∧ i ≤ code.length ∧ i ≤ 3000 ∧
    st = ⟨[], [(0, .d (.slc 1 (bytesD code))), (5, .sl 0), (6, .d (.int .i64 i))], [(0, .arr 0 0 1 (bytesD (kb :: code.take i)))], 1⟩) _ ⟨0, rfl, by omega, by omega, ?_⟩ ?_
  · simp [gc, closeN, liveA, gcV, gcO, renA, renAs, renO, namesAs, namesA, namesO, posn, bytesD]
  rintro n st ⟨i, rfl, hi, hi2, rfl⟩
  by_cases hlt : i < code.length
  · by_cases h3 : i < 3000
    · have ha := List.getElem?_eq_getElem hlt
      have htk : code.take (i + 1) = code.take i ++ [code[i]] := by rw [List.take_add_one, ha]; rfl
      have hs : bytesD (kb :: code.take (i + 1)) = bytesD (kb :: code.take i) ++ [[.int .u8 (code[i].toNat : Nat)]] := by rw [htk]; show bytesD ((kb :: code.take i) ++ [code[i]]) = _; unfold bytesD; rw [List.map_append]; rfl
      generalize code[i] = x at *
      have hx := x.toNat_lt
      have hln : (bytesD (kb :: code.take i)).length = i + 1 := by rw [bytesD_len]; simp; omega
      generalize bytesD (kb :: code.take i) = L at *
      repeat' (first | refine W_seq ?_ | refine W_skip ?_ | refine W_block ?_ | refine W_exit ?_ | refine pick_pos rfl ?_ | refine pick_neg rfl ?_ | ((first | refine W_regP fun K hK => ?_ | refine W_regPD fun K hK => ?_ | refine W_ret ?_); simp [Fin, ha, hbl, limit]) | (with_reducible refine hK _ ?_; clear hK K) | (with_reducible refine goL_split (fun h => ?_) (fun h => ?_) <;> first | (exfalso; simp at h; first | done | omega | contradiction) | ((try simp at h); simp [ha, hbl, limit])) | with_reducible refine And.intro ?_ ?_ | with_reducible exact okay_rfl rfl | with_reducible assumption | (refine W_cond rfl (fun h => ?_) (fun h => ?_) <;> first | (exfalso; simp at h; first | done | omega | contradiction) | (exfalso; simp_all; done) | (try simp at h)) | omega)
      refine ⟨code.length - (i + 1), by omega, i + 1, rfl, by omega, by omega, ?_⟩
      rw [hs]
      simp [gc, closeN, liveA, gcV, gcO, renA, renAs, renO, namesAs, namesA, namesO, posn]
      exact wrap_id (by omega) (by omega)
    · have hie : i = 3000 := by omega
      subst hie
      repeat' (first | refine W_seq ?_ | refine W_skip ?_ | refine W_block ?_ | refine W_exit ?_ | refine pick_pos rfl ?_ | refine pick_neg rfl ?_ | ((first | refine W_regP fun K hK => ?_ | refine W_regPD fun K hK => ?_ | refine W_ret ?_); simp [Fin, hbl]) | (with_reducible refine hK _ ?_; clear hK K) | (with_reducible refine goL_split (fun h => ?_) (fun h => ?_) <;> first | (exfalso; simp at h; first | done | omega | contradiction) | ((try simp at h); simp [hbl])) | with_reducible refine And.intro ?_ ?_ | with_reducible exact okay_rfl rfl | with_reducible assumption | (refine W_cond rfl (fun h => ?_) (fun h => ?_) <;> first | (exfalso; simp at h; first | done | omega | contradiction) | (exfalso; simp_all; done) | (try simp at h)) | omega)
  · have hie : i = code.length := by omega
    subst hie
    rw [List.take_of_length_le (Nat.le_refl code.length), List.take_of_length_le hi2]
    repeat' (first | refine W_seq ?_ | refine W_skip ?_ | refine W_block ?_ | refine W_exit ?_ | refine pick_pos rfl ?_ | refine pick_neg rfl ?_ | ((first | refine W_regP fun K hK => ?_ | refine W_regPD fun K hK => ?_ | refine W_ret ?_); simp [Fin, hbl]) | (with_reducible refine hK _ ?_; clear hK K) | (with_reducible refine goL_split (fun h => ?_) (fun h => ?_) <;> first | (exfalso; simp at h; first | done | omega | contradiction) | ((try simp at h); simp [hbl])) | with_reducible refine And.intro ?_ ?_ | with_reducible exact okay_rfl rfl | with_reducible assumption | (refine W_cond rfl (fun h => ?_) (fun h => ?_) <;> first | (exfalso; simp at h; first | done | omega | contradiction) | (exfalso; simp_all; done) | (try simp at h)) | omega)

theorem lAddNote_v [MaxL GG] (code : List UInt8) (h : code.length ≤ 1048577) : Valid PP GG F_S_DrawAddNote [.d (.slc 1 (bytesD code))] (.tup [.agg (lAddNote code).1.o, .agg (lAddNote code).2.o]) [none] := by
  refine v_S_DrawAddNote [.agg (lAddNote code).1.o, .agg (lAddNote code).2.o] rfl rfl ?_
  have hr : lAddNote code = ((lOne code).1, (lNote (lAddAt (lOne code)).2 (lAddAt (lOne code)).1).1) := rfl
  have c1 := lOne_v (GG := GG) code h
  obtain ⟨k1, k2, g1⟩ := lOne_ok h
  generalize lOne code = u at *
  obtain ⟨⟨F, S, l⟩, cu⟩ := u
  dsimp only at *
  have hll : l.length ≤ 60000 := by have : (GChain.mk F S l).cost = l.length + sumBy GNote.cost l := rfl; omega
  have hiN := ind_rNote l
  cases hl : l.getLast? with
  | none =>
    have h0 : l = [] := by simpa using hl
    subst h0
    have ha : lAddAt (⟨F, S, []⟩, cu) = (0, cu) := rfl
    rw [ha] at hr
    dsimp only at hr
    have c2 := lNote_v (GG := GG) cu 0 g1
    generalize lNote cu 0 = N at *
    rw [hr]
    clear hr
    repeat' (first | refine W_seq ?_ | refine W_skip ?_ | refine W_block ?_ | refine W_exit ?_ | refine pick_pos rfl ?_ | refine pick_neg rfl ?_ | ((first | refine W_regP fun K hK => ?_ | refine W_regPD fun K hK => ?_ | refine W_ret ?_ | with_reducible refine callQ (c1) ?_ | with_reducible refine callQ (c2) ?_); simp [Fin]) | (with_reducible refine hK _ ?_; clear hK K) | (with_reducible refine goL_split (fun h => ?_) (fun h => ?_) <;> first | (exfalso; simp at h; first | done | omega | contradiction) | ((try simp at h); simp)) | with_reducible refine And.intro ?_ ?_ | with_reducible exact okay_rfl rfl | with_reducible assumption | (refine W_cond rfl (fun h => ?_) (fun h => ?_) <;> first | (exfalso; simp at h; first | done | omega | contradiction) | (exfalso; simp_all; done) | (try simp at h)) | omega)
  | some x =>
    have hlp : 0 < l.length := by cases l with | nil => simp at hl | cons a t => simp
    have hg : l[l.length - 1]? = some x := by rw [← List.getLast?_eq_getElem?]; exact hl
    have ha : lAddAt (⟨F, S, l⟩, cu) = (IntKind.i64.wrap (x.fAt + (lBelow cu 3).1), (lBelow cu 3).2) := by unfold lAddAt; rw [hl]
    rw [ha] at hr
    dsimp only at hr
    have c2 := lBelow_v (GG := GG) cu 3 g1
    have g2 := lBelow_good g1 3
    generalize lBelow cu 3 = b at *
    have c3 := lNote_v (GG := GG) b.2 (IntKind.i64.wrap (x.fAt + b.1)) g2
    generalize lNote b.2 (IntKind.i64.wrap (x.fAt + b.1)) = N at *
    rw [hr]
    clear hr ha
    obtain ⟨m, hm⟩ : ∃ m, l.length = m + 1 := ⟨l.length - 1, by omega⟩
    rw [hm, Nat.add_sub_cancel] at hg
    have hw : IntKind.i64.wrap (((l.length : Nat) : Int) - 1) = (m : Int) := by rw [wrap_id (by omega) (by omega)]; omega
    have hgt : ((0 : Int) < ((l.length : Nat) : Int)) = True := by simp; omega
    obtain ⟨x1, x2, x3, x4, x5, x6, x7⟩ := x
    dsimp only at *
    repeat' (first | refine W_seq ?_ | refine W_skip ?_ | refine W_block ?_ | refine W_exit ?_ | refine pick_pos rfl ?_ | refine pick_neg rfl ?_ | ((first | refine W_regP fun K hK => ?_ | refine W_regPD fun K hK => ?_ | refine W_ret ?_ | with_reducible refine callQ (c1) ?_ | with_reducible refine callQ (c2) ?_ | with_reducible refine callQ (c3) ?_); simp [Fin, hw, hgt, hg]) | (with_reducible refine hK _ ?_; clear hK K) | (with_reducible refine goL_split (fun h => ?_) (fun h => ?_) <;> first | (exfalso; simp at h; first | done | omega | contradiction) | ((try simp at h); simp [hw, hgt, hg])) | with_reducible refine And.intro ?_ ?_ | with_reducible exact okay_rfl rfl | with_reducible assumption | (refine W_cond rfl (fun h => ?_) (fun h => ?_) <;> first | (exfalso; simp at h; first | done | omega | contradiction) | (exfalso; simp_all; done) | (try simp at h)) | omega)

def noteAt (code : List UInt8) (i : Nat) : GNote := { (lAddNote (altL code i)).2 with fAt := i }

def aud (code : List UInt8) : Nat → GChain
  | 0 => { fFirst := 0, fSalt := atV code 0, fNotes := [] }
  | i + 1 => addC (aud code i) (noteAt code i)

theorem noteAt_ok (code : List UInt8) {i : Nat} (hi : i ≤ 1000) : (noteAt code i).ok ∧ (noteAt code i).cost ≤ 220 := by
  have hs : smallN (noteAt code i) := by
    have h := lAddNote_ok (code := altL code i) (by have := altL_len code i; omega)
    exact h
  exact small_ok hs (a := i) (.inl rfl) (by omega)

theorem aud_ok (code : List UInt8) : ∀ i, i ≤ 100 → Grew (aud code i) i ∧ (aud code i).ok ∧ (aud code i).cost ≤ 230 * i := by
  have h0 := atV_rng code 0
  intro i
  induction i with
  | zero =>
    intro _
    refine ⟨⟨?_, Nat.le_refl _, rfl⟩, ⟨?_, ?_, ?_, ?_⟩, Nat.le_refl _⟩
    · rw [chainOk_iff]
      refine ⟨Int.le_refl _, ?_, by show 0 ≤ 120; omega, fun i hi => absurd hi (Nat.not_lt_zero i)⟩
      show keyB (atV code 0) = true
      unfold keyB inB
      simp only [Bool.and_eq_true, decide_eq_true_eq]
      omega
    · show int64 0; unfold int64; omega
    · show int64 (atV code 0); unfold int64; omega
    · show 0 ≤ maxLen; omega
    · intro y hy; cases hy
  | succ i ih =>
    intro hi
    obtain ⟨a1, a2, a3⟩ := ih (by omega)
    obtain ⟨n1, n2⟩ := noteAt_ok code (i := i) (by omega)
    have hc := addC_cost (aud code i) (noteAt code i)
    refine ⟨grew_add a1 (by omega) _, addC_ok a2 n1 (by omega) (by omega), ?_⟩
    show (addC (aud code i) (noteAt code i)).cost ≤ _
    omega

theorem sumT_take (l : List GNote) (k : Nat) : sumBy GNote.cost (l.take k) ≤ sumBy GNote.cost l := by
  induction l generalizing k with
  | nil => simp
  | cons a t ih => cases k with
    | zero => simp [sumBy]
    | succ k => simp only [List.take_succ_cons, sumBy]; have := ih k; omega

theorem sumT_drop (l : List GNote) (k : Nat) : sumBy GNote.cost (l.drop k) ≤ sumBy GNote.cost l := by
  induction l generalizing k with
  | nil => simp
  | cons a t ih => cases k with
    | zero => simp
    | succ k => simp only [List.drop_succ_cons, sumBy]; have := ih k; omega

theorem cutA_ok {c : GChain} (h : c.ok) (k : Nat) : (cutA c k).ok ∧ (cutA c k).cost ≤ c.cost := by
  obtain ⟨h1, h2, h3, h4⟩ := h
  refine ⟨⟨h1, h2, by unfold cutA; rw [List.length_take]; omega, fun y hy => h4 y (List.mem_of_mem_take hy)⟩, ?_⟩
  have := sumT_take c.fNotes k
  show (c.fNotes.take k).length + sumBy GNote.cost (c.fNotes.take k) ≤ c.fNotes.length + sumBy GNote.cost c.fNotes
  rw [List.length_take]
  omega

theorem cutC_ok {c : GChain} (h : c.ok) (k : Nat) : (cutC c k).ok ∧ (cutC c k).cost ≤ c.cost := by
  obtain ⟨h1, h2, h3, h4⟩ := h
  refine ⟨⟨?_, h2, by unfold cutC; rw [List.length_drop]; omega, fun y hy => h4 y (List.mem_of_mem_drop hy)⟩, ?_⟩
  · show int64 (hdF c.fFirst (c.fNotes.take k))
    unfold hdF
    cases hl : (c.fNotes.take k).getLast? with
    | none => exact h1
    | some x => exact (h4 x (List.mem_of_mem_take (List.mem_of_getLast? hl))).2.2.2.2.2.2
  have := sumT_drop c.fNotes k
  show (c.fNotes.drop k).length + sumBy GNote.cost (c.fNotes.drop k) ≤ c.fNotes.length + sumBy GNote.cost c.fNotes
  rw [List.length_drop]
  omega

theorem breakV_le (c : GChain) : breakV c ≤ (c.fNotes.length : Nat) := by
  have := breakL_le c.fFirst c.fNotes
  unfold breakV
  split <;> omega

theorem law_AuditFn [P10 GG] [MaxL GG] (code : List UInt8) (hl : code.length ≤ maxLen) : Valid PP GG F_L_FnAudit [.d (.slc 1 (bytesD code))] (.d (.bool true)) [none] := by
  refine v_L_FnAudit [.d (.bool true)] rfl rfl ?_
  have cb := big_ok (GG := GG) code hl
  by_cases hbig : 1048576 < code.length
  · rw [decide_eq_true hbig] at cb
    repeat' (first | refine W_seq ?_ | refine W_skip ?_ | refine W_block ?_ | refine W_exit ?_ | refine pick_pos rfl ?_ | refine pick_neg rfl ?_ | ((first | refine W_regP fun K hK => ?_ | refine W_regPD fun K hK => ?_ | refine W_ret ?_ | with_reducible refine callQ (cb) ?_); simp [Fin]) | (with_reducible refine hK _ ?_; clear hK K) | (with_reducible refine goL_split (fun h => ?_) (fun h => ?_) <;> first | (exfalso; simp at h; first | done | omega | contradiction) | ((try simp at h); simp)) | with_reducible refine And.intro ?_ ?_ | with_reducible exact okay_rfl rfl | with_reducible assumption | (refine W_cond rfl (fun h => ?_) (fun h => ?_) <;> first | (exfalso; simp at h; first | done | omega | contradiction) | (exfalso; simp_all; done) | (try simp at h)) | omega)
  rw [decide_eq_false hbig] at cb
  have hcl : code.length ≤ 1048577 := by omega
  have a0 : Valid PP GG F_L_at [.d (.slc 1 (bytesD code)), .d (.int .i64 0)] (.d (.int .i64 (atV code 0))) [none, none] := at_ok code 0 hcl (by omega)
  have a1 : Valid PP GG F_L_at [.d (.slc 1 (bytesD code)), .d (.int .i64 1)] (.d (.int .i64 (atV code 1))) [none, none] := at_ok code 1 hcl (by omega)
  have a2 : Valid PP GG F_L_at [.d (.slc 1 (bytesD code)), .d (.int .i64 2)] (.d (.int .i64 (atV code 2))) [none, none] := at_ok code 2 hcl (by omega)
  have a3 : Valid PP GG F_L_at [.d (.slc 1 (bytesD code)), .d (.int .i64 3)] (.d (.int .i64 (atV code 3))) [none, none] := at_ok code 3 hcl (by omega)
  have r1 := atV_rng code 1
  have r2 := atV_rng code 2
  have r3 := atV_rng code 3
  have haud := aud_ok code
  have hz : aud code 0 = { fFirst := 0, fSalt := atV code 0, fNotes := [] } := rfl
  generalize atV code 0 = s0 at *
  generalize atV code 1 = s1 at *
  obtain ⟨n, hn⟩ : ∃ n : Nat, s1.tmod 40 = (n : Int) := Int.eq_ofNat_of_zero_le (Int.tmod_nonneg _ r1.1)
  have hn40 : n < 40 := by have := Int.tmod_lt_of_pos s1 (b := 40) (by omega); omega
  refine W_seq (?_)
  apply W_regS
  · intro K hK
    simp
    repeat' (first | with_reducible exact hK | (with_reducible refine goL_split (fun _ => ?_) (fun _ => ?_) <;> simp) | with_reducible refine And.intro ?_ ?_ | with_reducible exact okay_rfl rfl | with_reducible assumption | omega)
  refine W_seq (W_seq ?_)
  apply W_regS
  · intro K hK
    simp
    repeat' (first | with_reducible exact hK | (with_reducible refine callQ (cb) ?_; simp) | (with_reducible refine goL_split (fun _ => ?_) (fun _ => ?_) <;> simp) | with_reducible refine And.intro ?_ ?_ | with_reducible exact okay_rfl rfl | with_reducible assumption | omega)
  refine W_cond rfl (fun h => by simp at h) (fun h => W_skip ?_)
  refine W_seq (?_)
  apply W_regS
  · intro K hK
    simp
    repeat' (first | with_reducible exact hK | (with_reducible refine callQ (a0) ?_; simp) | (with_reducible refine goL_split (fun _ => ?_) (fun _ => ?_) <;> simp) | with_reducible refine And.intro ?_ ?_ | with_reducible exact okay_rfl rfl | with_reducible assumption | omega)
  refine W_seq (?_)
  apply W_regS
  · intro K hK
    simp [hn]
    repeat' (first | with_reducible exact hK | (with_reducible refine callQ (a1) ?_; simp [hn]) | (with_reducible refine goL_split (fun _ => ?_) (fun _ => ?_) <;> simp [hn]) | with_reducible refine And.intro ?_ ?_ | with_reducible exact okay_rfl rfl | with_reducible assumption | omega)
  clear cb a0 a1 r1
  refine W_nilP 3 2 rfl rfl rfl ?_
  refine W_cut [0, 3] (fun st' => st' = ⟨[], [(0, .d (.slc 1 (bytesD code))), (3, .ptr 0 0)], [(0, .box [.d (.int .i64 (aud code n).fFirst), .d (.int .i64 (aud code n).fSalt), .sl 1]), (1, .arr 0 0 7 (rNote (aud code n).fNotes))], 2⟩) ?_ ?_
  · clear a2 a3 r2 r3
    repeat' (first | refine W_seq ?_ | refine W_skip ?_ | refine W_block ?_ | refine W_exit ?_ | refine pick_pos rfl ?_ | refine pick_neg rfl ?_ | ((first | refine W_regP fun K hK => ?_ | refine W_regPD fun K hK => ?_ | refine W_ret ?_); simp [Fin]) | (with_reducible refine hK _ ?_; clear hK K) | (with_reducible refine goL_split (fun h => ?_) (fun h => ?_) <;> first | (exfalso; simp at h; first | done | omega | contradiction) | ((try simp at h); simp)) | with_reducible refine And.intro ?_ ?_ | with_reducible exact okay_rfl rfl | with_reducible assumption | (refine W_cond rfl (fun h => ?_) (fun h => ?_) <;> first | (exfalso; simp at h; first | done | omega | contradiction) | (exfalso; simp_all; done) | (try simp at h)) | omega)
    refine W_loop (fun k st => ∃ i : Nat, k = n - i ∧ i ≤ n ∧
      st = ⟨[], [(0, .d (.slc 1 (bytesD code))), (3, .ptr 0 0), (4, .d (.int .i64 n)), (5, .d (.int .i64 i))], [(0, .box [.d (.int .i64 (aud code i).fFirst), .d (.int .i64 (aud code i).fSalt), .sl 1]), (1, .arr 0 0 7 (rNote (aud code i).fNotes))], 2⟩) _ ⟨0, rfl, by omega, ?_⟩ ?_
    · rw [hz]
      simp [gc, closeN, liveA, gcV, gcO, renA, renAs, renO, namesAs, namesA, namesO, posn, rNote]
    rintro k st ⟨i, rfl, hi, rfl⟩
    by_cases hlt : i < n
    · obtain ⟨q1, q2, q3⟩ := haud i (by omega)
      obtain ⟨n1, n2⟩ := noteAt_ok code (i := i) (by omega)
      have hs : aud code (i + 1) = addC (aud code i) (noteAt code i) := rfl
      have hna : noteAt code i = { (lAddNote (altL code i)).2 with fAt := i } := rfl
      have c1 := alt_ok (GG := GG) code i hcl (by omega)
      have c2 := lAddNote_v (GG := GG) (altL code i) (by have := altL_len code i; omega)
      have c3 := s_AddNote_ok (GG := GG) (aud code i) (noteAt code i) q2 n1 (by omega)
      have c4 := i_AddNote_ok (GG := GG) (aud code i) (noteAt code i) q2 n1 (by omega)
      have hi1 := ind_rNote (addC (aud code i) (noteAt code i)).fNotes
      have hi2 := ind_rNote (lAddNote (altL code i)).1.fNotes
      rw [hna] at c3 c4 hs hi1
      clear hna n1 n2 q1 q2 q3 haud hz
      generalize altL code i = al at *
      generalize lAddNote al = D at *
      generalize aud code i = C at *
      obtain ⟨D1, D2⟩ := D
      obtain ⟨d1, d2, d3, d4, d5, d6, d7⟩ := D2
      dsimp only at *
      generalize addB C ⟨d1, (i : Int), d3, d4, d5, d6, d7⟩ = AB at *
      generalize addC C ⟨d1, (i : Int), d3, d4, d5, d6, d7⟩ = AC at *
      have hAB : (AB != AB) = false := by simp
      have hLL : (((AC.fNotes.length : Nat) : Int) != ((AC.fNotes.length : Nat) : Int)) = false := by simp
      repeat' (first | refine W_seq ?_ | refine W_skip ?_ | refine W_block ?_ | refine W_exit ?_ | refine pick_pos rfl ?_ | refine pick_neg rfl ?_ | ((first | refine W_regP fun K hK => ?_ | refine W_regPD fun K hK => ?_ | refine W_ret ?_ | with_reducible refine callQ (c1) ?_ | with_reducible refine callQ (c2) ?_ | with_reducible refine callQ (c3) ?_ | with_reducible refine callQ (c4) ?_); simp [Fin, hAB, hLL]) | (with_reducible refine hK _ ?_; clear hK K) | (with_reducible refine goL_split (fun h => ?_) (fun h => ?_) <;> first | (exfalso; simp at h; first | done | omega | contradiction) | ((try simp at h); simp [hAB, hLL])) | with_reducible refine And.intro ?_ ?_ | with_reducible exact okay_rfl rfl | with_reducible assumption | (refine W_cond rfl (fun h => ?_) (fun h => ?_) <;> first | (exfalso; simp at h; first | done | omega | contradiction) | (exfalso; simp_all; done) | (try simp at h)) | omega)
      refine ⟨n - (i + 1), by omega, i + 1, rfl, hlt, ?_⟩
      rw [hs]
      simp [gc, closeN, liveA, gcV, gcO, renA, renAs, renO, namesAs, namesA, namesO, posn]
      exact wrap_id (by omega) (by omega)
    · have hie : i = n := by omega
      subst hie
      repeat' (first | refine W_seq ?_ | refine W_skip ?_ | refine W_block ?_ | refine W_exit ?_ | refine pick_pos rfl ?_ | refine pick_neg rfl ?_ | ((first | refine W_regP fun K hK => ?_ | refine W_regPD fun K hK => ?_ | refine W_ret ?_); simp [Fin]) | (with_reducible refine hK _ ?_; clear hK K) | (with_reducible refine goL_split (fun h => ?_) (fun h => ?_) <;> first | (exfalso; simp at h; first | done | omega | contradiction) | ((try simp at h); simp)) | with_reducible refine And.intro ?_ ?_ | with_reducible exact okay_rfl rfl | with_reducible assumption | (refine W_cond rfl (fun h => ?_) (fun h => ?_) <;> first | (exfalso; simp at h; first | done | omega | contradiction) | (exfalso; simp_all; done) | (try simp at h)) | omega)
      simp [gc, closeN, liveA, gcV, gcO, renA, renAs, renO, namesAs, namesA, namesO, posn]
  rintro st rfl
  obtain ⟨⟨q1, q2, q3⟩, q4, q5⟩ := haud n (by omega)
  clear haud hz hn
  generalize hC : aud code n = C at *
  clear hC
  have hcost : C.cost ≤ 20000 := by omega
  have hfol := fun k => cut_follows (k := k) ⟨q1, q2, q3⟩
  have c1 := i_BreakOf_ok (GG := GG) C q4 (by omega)
  have hbv : breakV C = ((C.fNotes.length : Nat) : Int) := by unfold breakV; rw [if_pos q1, q3]
  rw [hbv] at c1
  have hne : (((C.fNotes.length : Nat) : Int) != ((C.fNotes.length : Nat) : Int)) = false := by simp
  have hcA := fun k => cutA_ok q4 k
  have hcC := fun k => cutC_ok q4 k
  have hset := fun (k : Nat) (f : GNote → GNote) (hf : ∀ x, x.ok → (f x).ok ∧ (f x).cost ≤ x.cost + 5) => setN_ok q4 k f hf
  have cH := i_HeadOf_ok (GG := GG) C (by omega)
  have hok := q4.2.2.2
  have hlim := chain_len q1
  have hiN := ind_rNote C.fNotes
  have hnc := fun x (hx : x ∈ C.fNotes) => mem_cost hx
  have hHV : C.fNotes = [] → headV C = C.fFirst := fun e => by unfold headV; rw [if_pos q1, e]; rfl
  have hhA : ∀ k, headV (cutA C k) = hdF C.fFirst (C.fNotes.take k) := fun k => by
    have h := hfol k
    rw [show headV (cutA C k) = if chainOk (cutA C k) = true then headL (cutA C k) else -1 from rfl, if_pos h.1]
    exact h.2.1
  obtain ⟨F, S, l⟩ := C
  have hcc : (GChain.mk F S l).cost = l.length + sumBy GNote.cost l := rfl
  dsimp only at *
  clear q1 q2 q3 q4 hbv
  cases l with
  | nil =>
    rw [hHV rfl] at cH
    clear hfol hcA hcC hset hhA hok hnc
    repeat' (first | refine W_seq ?_ | refine W_skip ?_ | refine W_block ?_ | refine W_exit ?_ | refine pick_pos rfl ?_ | refine pick_neg rfl ?_ | ((first | refine W_regP fun K hK => ?_ | refine W_regPD fun K hK => ?_ | refine W_ret ?_ | with_reducible refine callQ (c1) ?_ | with_reducible refine callQ (cH) ?_); simp [Fin, hne]) | (with_reducible refine hK _ ?_; clear hK K) | (with_reducible refine goL_split (fun h => ?_) (fun h => ?_) <;> first | (exfalso; simp at h; first | done | omega | contradiction) | ((try simp at h); simp [hne])) | with_reducible refine And.intro ?_ ?_ | with_reducible exact okay_rfl rfl | with_reducible assumption | (refine W_cond rfl (fun h => ?_) (fun h => ?_) <;> first | (exfalso; simp at h; first | done | omega | contradiction) | (exfalso; simp_all; done) | (try simp at h)) | omega)
  | cons z0 t0 =>
  have hlp : 0 < (z0 :: t0).length := by simp
  generalize z0 :: t0 = l at *
  clear cH hHV
  have hl0 : (((l.length : Nat) : Int) == 0) = false := by simp; intro e; rw [e] at hlp; exact absurd hlp (by simp)
  obtain ⟨k, hk⟩ : ∃ k : Nat, (atV code 2).tmod ((l.length : Nat) + 1) = (k : Int) := Int.eq_ofNat_of_zero_le (Int.tmod_nonneg _ r2.1)
  have hkl : k ≤ l.length := by have := Int.tmod_lt_of_pos (atV code 2) (b := ((l.length : Nat) : Int) + 1) (by omega); omega
  obtain ⟨j, hj⟩ : ∃ j : Nat, (atV code 3).tmod ((l.length : Nat) : Int) = (j : Int) := Int.eq_ofNat_of_zero_le (Int.tmod_nonneg _ r3.1)
  have hjl : j < l.length := by have := Int.tmod_lt_of_pos (atV code 3) (b := ((l.length : Nat) : Int)) (by omega); omega
  have hn0 : ¬ (((l.length : Nat) : Int) + 1 = 0) := by omega
  have hw1 : IntKind.i64.wrap (((l.length : Nat) : Int) + 1) = ((l.length : Nat) : Int) + 1 := wrap_id (by omega) (by omega)
  obtain ⟨A1, A2⟩ := hcA k
  obtain ⟨B1, B2⟩ := hcC k
  have c2 := i_HeadOf_ok (GG := GG) (cutA ⟨F, S, l⟩ k) (by omega)
  rw [hhA k] at c2
  have c3 := i_Follows_ok (GG := GG) (cutA ⟨F, S, l⟩ k) (cutC ⟨F, S, l⟩ k) A1 B1 (by omega) (by omega)
  rw [(hfol k).2.2] at c3
  have eA : cutA ⟨F, S, l⟩ k = ⟨F, S, l.take k⟩ := rfl
  have eB : cutC ⟨F, S, l⟩ k = ⟨hdF F (l.take k), S, l.drop k⟩ := rfl
  rw [eA] at c2 c3
  rw [eB] at c3
  try dsimp only at c2 c3
  have hta : List.take k (rNote l) = rNote (List.take k l) := by unfold rNote; rw [List.map_take]
  have htd : List.drop k (List.take l.length (rNote l)) = rNote (List.drop k l) := by rw [← rNote_len l, List.take_length]; unfold rNote; rw [List.map_drop]
  have hkT : (k ≤ l.length) = True := by simp; omega
  clear A1 A2 B1 B2 eA eB hcA hcC hfol hhA
  generalize hdF F (l.take k) = H at *
  refine W_seq (W_seq ?_)
  apply W_regD
  · intro K hK
    simp [hne]
    repeat' (first | with_reducible exact hK | (with_reducible refine callQ (c1) ?_; simp [hne]) | (with_reducible refine goL_split (fun _ => ?_) (fun _ => ?_) <;> simp [hne]) | with_reducible refine And.intro ?_ ?_ | with_reducible exact okay_rfl rfl | with_reducible assumption | omega)
  refine W_cond rfl (fun h => by simp at h) (fun h => W_skip ?_)
  refine W_seq (W_seq ?_)
  apply W_regS
  · intro K hK
    simp [hl0]
    repeat' (first | with_reducible exact hK | (with_reducible refine goL_split (fun _ => ?_) (fun _ => ?_) <;> simp [hl0]) | with_reducible refine And.intro ?_ ?_ | with_reducible exact okay_rfl rfl | with_reducible assumption | omega)
  refine W_cond rfl (fun h => by simp at h) (fun h => W_skip ?_)
  refine W_seq (?_)
  apply W_regD
  · intro K hK
    simp [hk, hw1, hn0]
    repeat' (first | with_reducible exact hK | (with_reducible refine callQ (a2) ?_; simp [hk, hw1, hn0]) | (with_reducible refine goL_split (fun _ => ?_) (fun _ => ?_) <;> simp [hk, hw1, hn0]) | with_reducible refine And.intro ?_ ?_ | with_reducible exact okay_rfl rfl | with_reducible assumption | omega)
  refine W_seq (?_)
  apply W_regD
  · intro K hK
    simp [hta, hkT]
    repeat' (first | with_reducible exact hK | (with_reducible refine goL_split (fun _ => ?_) (fun _ => ?_) <;> simp [hta, hkT]) | with_reducible refine And.intro ?_ ?_ | with_reducible exact okay_rfl rfl | with_reducible assumption | omega)
  refine W_seq (?_)
  apply W_regD
  · intro K hK
    simp [hta, htd, hkT]
    repeat' (first | with_reducible exact hK | (with_reducible refine callQ (c2) ?_; simp [hta, htd, hkT]) | (with_reducible refine goL_split (fun _ => ?_) (fun _ => ?_) <;> simp [hta, htd, hkT]) | with_reducible refine And.intro ?_ ?_ | with_reducible exact okay_rfl rfl | with_reducible assumption | omega)
  refine W_seq (W_seq ?_)
  apply W_regS
  · intro K hK
    simp [hta, htd, hkT]
    repeat' (first | with_reducible exact hK | (with_reducible refine callQ (c3) ?_; simp [hta, htd, hkT]) | (with_reducible refine goL_split (fun _ => ?_) (fun _ => ?_) <;> simp [hta, htd, hkT]) | with_reducible refine And.intro ?_ ?_ | with_reducible exact okay_rfl rfl | with_reducible assumption | omega)
  refine W_cond rfl (fun h => by simp at h) (fun h => W_skip ?_)
  refine W_seq (?_)
  apply W_regS
  · intro K hK
    simp
    repeat' (first | with_reducible exact hK | (with_reducible refine goL_split (fun _ => ?_) (fun _ => ?_) <;> simp) | with_reducible refine And.intro ?_ ?_ | with_reducible exact okay_rfl rfl | with_reducible assumption | omega)
  clear c1 a2 c2 c3 hta htd hkT hne hl0 hk hw1 hkl
  refine W_nilP 15 2 rfl rfl rfl ?_
  repeat' (first | refine W_seq ?_ | refine W_skip ?_ | refine W_block ?_ | refine W_exit ?_ | refine pick_pos rfl ?_ | refine pick_neg rfl ?_ | ((first | refine W_regP fun K hK => ?_ | refine W_regPD fun K hK => ?_ | refine W_ret ?_); simp [Fin]) | (with_reducible refine hK _ ?_; clear hK K) | (with_reducible refine goL_split (fun h => ?_) (fun h => ?_) <;> first | (exfalso; simp at h; first | done | omega | contradiction) | ((try simp at h); simp)) | with_reducible refine And.intro ?_ ?_ | with_reducible exact okay_rfl rfl | with_reducible assumption | (refine W_cond rfl (fun h => ?_) (fun h => ?_) <;> first | (exfalso; simp at h; first | done | omega | contradiction) | (exfalso; simp_all; done) | (try simp at h)) | omega)
  refine W_loop (fun m st => ∃ i : Nat, m = l.length - i ∧ i ≤ l.length ∧ st = ⟨[], [(0, .d (.slc 1 (bytesD code))), (3, .ptr 0 0), (15, .ptr 1 0), (16, .d (.int .i64 i))],
    [(0, .box [.d (.int .i64 F), .d (.int .i64 S), .sl 2]), (1, .box [.d (.int .i64 F), .d (.int .i64 S), .sl 3]), (2, .arr 0 0 7 (rNote l)), (3, .arr 0 0 7 (rNote (l.take i)))], 4⟩) _ ⟨0, rfl, by omega, ?_⟩ ?_
  · simp [gc, closeN, liveA, gcV, gcO, renA, renAs, renO, namesAs, namesA, namesO, posn, rNote]
  rintro m st ⟨i, rfl, hi, rfl⟩
  by_cases hlt : i < l.length
  · have hg := List.getElem?_eq_getElem hlt
    have hsc : rNote (l.take (i + 1)) = rNote (l.take i) ++ [GNote.row l[i]] := by rw [List.take_add_one, hg]; exact rNote_snoc _ _
    have hln : (rNote (l.take i)).length = i := by rw [rNote_len, List.length_take]; omega
    have hiT := ind_rNote (l.take i)
    generalize l[i] = x at *
    generalize rNote (l.take i) = L at *
    obtain ⟨x1, x2, x3, x4, x5, x6, x7⟩ := x
    clear hnc hok hset hj
    repeat' (first | refine W_seq ?_ | refine W_skip ?_ | refine W_block ?_ | refine W_exit ?_ | refine pick_pos rfl ?_ | refine pick_neg rfl ?_ | ((first | refine W_regP fun K hK => ?_ | refine W_regPD fun K hK => ?_ | refine W_ret ?_); simp [Fin, hg, limit, hln]) | (with_reducible refine hK _ ?_; clear hK K) | (with_reducible refine goL_split (fun h => ?_) (fun h => ?_) <;> first | (exfalso; simp at h; first | done | omega | contradiction) | ((try simp at h); simp [hg, limit, hln])) | with_reducible refine And.intro ?_ ?_ | with_reducible exact okay_rfl rfl | with_reducible assumption | (refine W_cond rfl (fun h => ?_) (fun h => ?_) <;> first | (exfalso; simp at h; first | done | omega | contradiction) | (exfalso; simp_all; done) | (try simp at h)) | omega)
    refine ⟨l.length - (i + 1), by omega, i + 1, rfl, hlt, ?_⟩
    rw [hsc]
    simp [gc, closeN, liveA, gcV, gcO, renA, renAs, renO, namesAs, namesA, namesO, posn]
    exact wrap_id (by omega) (by omega)
  have hie : i = l.length := by omega
  subst hie
  rw [List.take_length]
  have hg := List.getElem?_eq_getElem hjl
  have hm := List.getElem_mem hjl
  generalize l[j] = x at hg hm
  have hxo := hok x hm
  have hxc := hnc x hm
  have hco : x.cost = x.fWhat.length + x.fPath.length := rfl
  have hrm : int64 ((IntKind.i64.wrap (x.fCode + 1)).tmod 100) := by
    have h1 := Int.tmod_lt_of_pos (IntKind.i64.wrap (x.fCode + 1)) (b := 100) (by omega)
    have h2 : -100 < (IntKind.i64.wrap (x.fCode + 1)).tmod 100 := by
      have := Int.tmod_lt_of_pos (-(IntKind.i64.wrap (x.fCode + 1))) (b := 100) (by omega)
      rw [Int.neg_tmod] at this
      omega
    unfold int64
    omega
  obtain ⟨b1, b2⟩ := hset j (fun x => { x with fCode := (IntKind.i64.wrap (x.fCode + 1)).tmod 100 }) (fun y hy => ⟨⟨hy.1, hy.2.1, hy.2.2.1, hy.2.2.2.1, hy.2.2.2.2.1, by
    have h1 := Int.tmod_lt_of_pos (IntKind.i64.wrap (y.fCode + 1)) (b := 100) (by omega)
    have h2 : -100 < (IntKind.i64.wrap (y.fCode + 1)).tmod 100 := by
      have := Int.tmod_lt_of_pos (-(IntKind.i64.wrap (y.fCode + 1))) (b := 100) (by omega)
      rw [Int.neg_tmod] at this
      omega
    show int64 ((IntKind.i64.wrap (y.fCode + 1)).tmod 100)
    unfold int64
    omega, hy.2.2.2.2.2.2⟩, Nat.le_add_right _ _⟩)
  have hsn : setN l j (fun x => { x with fCode := (IntKind.i64.wrap (x.fCode + 1)).tmod 100 }) = l.set j { x with fCode := (IntKind.i64.wrap (x.fCode + 1)).tmod 100 } := by unfold setN; rw [hg]
  rw [hsn] at b1 b2
  have c1 := s_SumOf_g (GG := GG) 0 { x with fCode := (IntKind.i64.wrap (x.fCode + 1)).tmod 100 } (by unfold int64; omega) ⟨hxo.1, hxo.2.1, hxo.2.2.1, hxo.2.2.2.1, hxo.2.2.2.2.1, hrm, hxo.2.2.2.2.2.2⟩ (by dsimp only; omega) (by dsimp only; omega)
  have c2 := s_SumOf_g (GG := GG) 0 x (by unfold int64; omega) hxo (by omega) (by omega)
  have c3 := i_BreakOf_ok (GG := GG) ⟨F, S, l.set j { x with fCode := (IntKind.i64.wrap (x.fCode + 1)).tmod 100 }⟩ b1 (by omega)
  have c4 := s_BreakOf_ok (GG := GG) ⟨F, S, l.set j { x with fCode := (IntKind.i64.wrap (x.fCode + 1)).tmod 100 }⟩ b1 (by omega)
  have hle := breakV_le ⟨F, S, l.set j { x with fCode := (IntKind.i64.wrap (x.fCode + 1)).tmod 100 }⟩
  dsimp only at hle
  rw [List.length_set] at hle
  have hgx : (l.set j { x with fCode := (IntKind.i64.wrap (x.fCode + 1)).tmod 100 })[j]? = some { x with fCode := (IntKind.i64.wrap (x.fCode + 1)).tmod 100 } := by rw [List.getElem?_set_self hjl]
  have hlx : (l.set j { x with fCode := (IntKind.i64.wrap (x.fCode + 1)).tmod 100 }).length = l.length := List.length_set
  obtain ⟨x1, x2, x3, x4, x5, x6, x7⟩ := x
  dsimp only at *
  have hrs : (rNote l).set j [.int .i64 x1, .int .i64 x2, .int .i64 x3, .str x4, .str x5, .int .i64 ((IntKind.i64.wrap (x6 + 1)).tmod 100), .int .i64 x7] = rNote (l.set j ⟨x1, x2, x3, x4, x5, (IntKind.i64.wrap (x6 + 1)).tmod 100, x7⟩) := by unfold rNote; rw [List.map_set]
  have hiB := ind_rNote (l.set j ⟨x1, x2, x3, x4, x5, (IntKind.i64.wrap (x6 + 1)).tmod 100, x7⟩)
  generalize breakV ⟨F, S, l.set j ⟨x1, x2, x3, x4, x5, (IntKind.i64.wrap (x6 + 1)).tmod 100, x7⟩⟩ = v at *
  generalize hy6 : (IntKind.i64.wrap (x6 + 1)).tmod 100 = y6 at *
  generalize l.set j ⟨x1, x2, x3, x4, x5, y6, x7⟩ = l2 at *
  clear hset hnc hok b1 b2 hsn hxo hxc hco hrm hm
  have hvv : (v == v) = true := by simp
  have hlz : ¬ (((l.length : Nat) : Int) = 0) := by omega
  have hrem : intBin .rem .i64 (atV code 3) ((l.length : Nat) : Int) = some (.int .i64 (j : Int)) := by
    show (if ((l.length : Nat) : Int) = 0 then none else some (D.int .i64 ((atV code 3).tmod ((l.length : Nat) : Int)))) = _
    rw [if_neg hlz, hj]
  by_cases hE : sumV 0 ⟨x1, x2, x3, x4, x5, y6, x7⟩ = sumV 0 ⟨x1, x2, x3, x4, x5, x6, x7⟩
  · have hq : (sumV 0 ⟨x1, x2, x3, x4, x5, y6, x7⟩ == sumV 0 ⟨x1, x2, x3, x4, x5, x6, x7⟩) = true := by simpa using hE
    repeat' (first | refine W_seq ?_ | refine W_skip ?_ | refine W_block ?_ | refine W_exit ?_ | refine pick_pos rfl ?_ | refine pick_neg rfl ?_ | ((first | refine W_regP fun K hK => ?_ | refine W_regPD fun K hK => ?_ | refine W_ret ?_ | with_reducible refine callQ (a3) ?_ | with_reducible refine callQ (c1) ?_ | with_reducible refine callQ (c2) ?_); simp [Fin, hrem, hy6, hg, hgx, hrs, hlx, hq]) | (with_reducible refine hK _ ?_; clear hK K) | (with_reducible refine goL_split (fun h => ?_) (fun h => ?_) <;> first | (exfalso; simp at h; first | done | omega | contradiction) | ((try simp at h); simp [hrem, hy6, hg, hgx, hrs, hlx, hq])) | with_reducible refine And.intro ?_ ?_ | with_reducible exact okay_rfl rfl | with_reducible assumption | (refine W_cond rfl (fun h => ?_) (fun h => ?_) <;> first | (exfalso; simp at h; first | done | omega | contradiction) | (exfalso; simp_all; done) | (try simp at h)) | omega)
  · have hq : (sumV 0 ⟨x1, x2, x3, x4, x5, y6, x7⟩ == sumV 0 ⟨x1, x2, x3, x4, x5, x6, x7⟩) = false := by simpa using hE
    repeat' (first | refine W_seq ?_ | refine W_skip ?_ | refine W_block ?_ | refine W_exit ?_ | refine pick_pos rfl ?_ | refine pick_neg rfl ?_ | ((first | refine W_regP fun K hK => ?_ | refine W_regPD fun K hK => ?_ | refine W_ret ?_ | with_reducible refine callQ (a3) ?_ | with_reducible refine callQ (c1) ?_ | with_reducible refine callQ (c2) ?_ | with_reducible refine callQ (c3) ?_ | with_reducible refine callQ (c4) ?_); simp [Fin, hrem, hy6, hg, hgx, hrs, hlx, hq, hvv]) | (with_reducible refine hK _ ?_; clear hK K) | (with_reducible refine goL_split (fun h => ?_) (fun h => ?_) <;> first | (exfalso; simp at h; first | done | omega | contradiction) | ((try simp at h); simp [hrem, hy6, hg, hgx, hrs, hlx, hq, hvv])) | with_reducible refine And.intro ?_ ?_ | with_reducible exact okay_rfl rfl | with_reducible assumption | (refine W_cond rfl (fun h => ?_) (fun h => ?_) <;> first | (exfalso; simp at h; first | done | omega | contradiction) | (exfalso; simp_all; done) | (try simp at h)) | omega)


end Go.Proofs.YtalclmngpfpkmaaDoor.Ab

