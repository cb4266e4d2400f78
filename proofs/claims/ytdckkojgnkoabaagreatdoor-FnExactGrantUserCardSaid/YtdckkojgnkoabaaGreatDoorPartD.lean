/-
  A part of a proof about the given program; what is proved is said where each theorem stands.
-/
import Derived.Test.YtdckkojgnkoabaaGreatDoorFrameA
import Derived.Test.YtdckkojgnkoabaaGreatDoorFrameB
import Derived.Test.YtdckkojgnkoabaaGreatDoorFrameC
import Derived.Test.YtdckkojgnkoabaaGreatDoorFrameD
import Derived.Test.YtdckkojgnkoabaaGreatDoorFrameE
import Derived.Test.YtdckkojgnkoabaaGreatDoorHead
import Derived.Test.YtdckkojgnkoabaaGreatDoorShelf
import Derived.Test.YtdckkojgnkoabaaGreatDoorPartA
import Derived.Test.YtdckkojgnkoabaaGreatDoorPartB
import Derived.Test.YtdckkojgnkoabaaGreatDoorExtra
import Derived.Test.YtdckkojgnkoabaaGreatDoorPartC
namespace Go.Proofs
end Go.Proofs
set_option linter.unusedSimpArgs false
set_option linter.unusedVariables false
set_option maxRecDepth 100000
set_option maxHeartbeats 2000000
namespace Go.Proofs.YtdckkojgnkoabaaGreatDoor.Ab
open Go.Proofs
variable {GG : GV}
theorem InsertUser_ok (a : List GUser) (u : GUser) (i : Nat) (hi : i ≤ a.length) (hl : a.length ≤ 1048576) : Valid PP GG 218 [.own 0 2 (rUser a), .d (.int .i64 i), .own 0 2 [u.row]] (.own 0 2 (rUser (a.take i ++ u :: a.drop i))) [none, none, none] := by
  have h := insert_valid (G := GG) insUser ⟨Tryz.f218, Tryz.func218, by kernel_rfl, by kernel_rfl⟩ (k := 0) (rows := rUser a) (row := u.row) i (by rw [rUser_len]; exact hi) (by rw [rUser_len]; omega) (by rw [rUser_len]; omega)
  rw [show (rUser a).take i ++ u.row :: (rUser a).drop i = rUser (a.take i ++ u :: a.drop i) by simp [rUser]] at h
  exact h
theorem Repeat_ok (s : List UInt8) (c : Nat) (hc : s.length * c ≤ 1048576) (hc2 : c ≤ 1048576) : Valid PP GG 245 [.d (.str s), .d (.int .i64 c)] (.d (.str (Lib.repeatL s c))) [none, none] := by
  refine lib_new [.str s, .int .i64 c] ⟨Tryz.f245, Tryz.func245, by kernel_rfl, by kernel_rfl⟩ fun w Fz args hG hFz hl hA => ?_
  have e : args = #[.string ⟨s.toArray⟩, .int .i64 c] := by
    refine args_eq (l := [.string ⟨s.toArray⟩, .int .i64 c]) hl fun i v hv => ?_
    match i, hv with
    | 0, hv => cases hv; exact shr_str (hA 0 _ rfl)
    | 1, hv => cases hv; exact shr_int (hA 1 _ rfl)
  subst e
  refine (Go.Proofs.YtdckkojgnkoabaaGreatDoor.Tryz.strings_Repeat ⟨s.toArray⟩ c w (by omega) (by show s.toArray.size * c ≤ _; simp; omega)).mono ?_
  rintro e w' ⟨rfl, hb⟩
  exact ⟨_, Fz, fun _ _ => False, rfl, ⟨hb.os, hb.output⟩, hb.size, fun b h => hb.block b h, fun _ _ h => h, fun b o h => ⟨.inl h, Nat.lt_of_lt_of_le (hFz b o h) hb.size⟩, .d _ _ _ (.str _) fun _ _ h => h, fun _ _ h => h.elim⟩
def decB (m : Nat) (i : Nat) : UInt8 := UInt8.ofNat (48 + m / 10 ^ i % 10)
def six (m : Nat) : List UInt8 := [decB m 5, decB m 4, decB m 3, decB m 2, decB m 1, decB m 0]
theorem decDigits_step {u : Nat} (h : ¬ u < 10) : Lib.decDigits u = Lib.decDigits (u / 10) ++ [UInt8.ofNat (48 + u % 10)] := by
  rw [Lib.decDigits, dif_neg h]
theorem six_mod (n : Nat) : six n = six (n % 1000000) := by
  have h : ∀ i, i < 6 → decB n i = decB (n % 1000000) i := by
    intro i hi
    unfold decB
    have : n / 10 ^ i % 10 = n % 1000000 / 10 ^ i % 10 := by
      match i, hi with
      | 0, _ => simp only [Nat.pow_zero]; omega
      | 1, _ => simp only [Nat.reducePow]; omega
      | 2, _ => simp only [Nat.reducePow]; omega
      | 3, _ => simp only [Nat.reducePow]; omega
      | 4, _ => simp only [Nat.reducePow]; omega
      | 5, _ => simp only [Nat.reducePow]; omega
    rw [this]
  unfold six
  rw [h 0 (by omega), h 1 (by omega), h 2 (by omega), h 3 (by omega), h 4 (by omega), h 5 (by omega)]
theorem decB_eq {m i q : Nat} (h : m / 10 ^ i % 10 = q) : decB m i = UInt8.ofNat (48 + q) := by unfold decB; rw [h]
theorem six_itoa (n : Nat) : Lib.repeatL [48] (6 - (Lib.itoa ((n % 1000000 : Nat) : Int)).length) ++ Lib.itoa ((n % 1000000 : Nat) : Int) = six n ∧ 1 ≤ (Lib.itoa ((n % 1000000 : Nat) : Int)).length ∧ (Lib.itoa ((n % 1000000 : Nat) : Int)).length ≤ 6 := by
  rw [six_mod]
  have hm : n % 1000000 < 1000000 := Nat.mod_lt _ (by omega)
  generalize n % 1000000 = m at hm
  rw [Lib.itoa_nonneg]
  have p1 : ∀ u, u / 10 = u / 10 ^ 1 := fun _ => rfl
  by_cases h1 : m < 10
  · rw [Lib.decDigits_one h1]
    have e0 := decB_eq (m := m) (i := 0) (q := m) (by simp only [Nat.pow_zero]; omega)
    have e1 := decB_eq (m := m) (i := 1) (q := 0) (by simp only [Nat.reducePow]; omega)
    have e2 := decB_eq (m := m) (i := 2) (q := 0) (by simp only [Nat.reducePow]; omega)
    have e3 := decB_eq (m := m) (i := 3) (q := 0) (by simp only [Nat.reducePow]; omega)
    have e4 := decB_eq (m := m) (i := 4) (q := 0) (by simp only [Nat.reducePow]; omega)
    have e5 := decB_eq (m := m) (i := 5) (q := 0) (by simp only [Nat.reducePow]; omega)
    refine ⟨?_, by simp, by simp⟩
    unfold six; rw [e0, e1, e2, e3, e4, e5]; rfl
  have s1 := decDigits_step h1
  have e0 := decB_eq (m := m) (i := 0) (q := m % 10) (by simp only [Nat.pow_zero]; omega)
  by_cases h2 : m < 100
  · rw [s1, Lib.decDigits_one (by omega)]
    have e1 := decB_eq (m := m) (i := 1) (q := m / 10) (by simp only [Nat.reducePow]; omega)
    have e2 := decB_eq (m := m) (i := 2) (q := 0) (by simp only [Nat.reducePow]; omega)
    have e3 := decB_eq (m := m) (i := 3) (q := 0) (by simp only [Nat.reducePow]; omega)
    have e4 := decB_eq (m := m) (i := 4) (q := 0) (by simp only [Nat.reducePow]; omega)
    have e5 := decB_eq (m := m) (i := 5) (q := 0) (by simp only [Nat.reducePow]; omega)
    refine ⟨?_, by simp, by simp⟩
    unfold six; rw [e0, e1, e2, e3, e4, e5]; rfl
  have s2 := decDigits_step (u := m / 10) (by omega)
  have e1 := decB_eq (m := m) (i := 1) (q := m / 10 % 10) (by simp only [Nat.reducePow])
  by_cases h3 : m < 1000
  · rw [s1, s2, Lib.decDigits_one (by omega)]
    have e2 := decB_eq (m := m) (i := 2) (q := m / 10 / 10) (by simp only [Nat.reducePow]; omega)
    have e3 := decB_eq (m := m) (i := 3) (q := 0) (by simp only [Nat.reducePow]; omega)
    have e4 := decB_eq (m := m) (i := 4) (q := 0) (by simp only [Nat.reducePow]; omega)
    have e5 := decB_eq (m := m) (i := 5) (q := 0) (by simp only [Nat.reducePow]; omega)
    refine ⟨?_, by simp, by simp⟩
    unfold six; rw [e0, e1, e2, e3, e4, e5]; rfl
  have s3 := decDigits_step (u := m / 10 / 10) (by omega)
  have e2 := decB_eq (m := m) (i := 2) (q := m / 10 / 10 % 10) (by simp only [Nat.reducePow]; omega)
  by_cases h4 : m < 10000
  · rw [s1, s2, s3, Lib.decDigits_one (by omega)]
    have e3 := decB_eq (m := m) (i := 3) (q := m / 10 / 10 / 10) (by simp only [Nat.reducePow]; omega)
    have e4 := decB_eq (m := m) (i := 4) (q := 0) (by simp only [Nat.reducePow]; omega)
    have e5 := decB_eq (m := m) (i := 5) (q := 0) (by simp only [Nat.reducePow]; omega)
    refine ⟨?_, by simp, by simp⟩
    unfold six; rw [e0, e1, e2, e3, e4, e5]; rfl
  have s4 := decDigits_step (u := m / 10 / 10 / 10) (by omega)
  have e3 := decB_eq (m := m) (i := 3) (q := m / 10 / 10 / 10 % 10) (by simp only [Nat.reducePow]; omega)
  by_cases h5 : m < 100000
  · rw [s1, s2, s3, s4, Lib.decDigits_one (by omega)]
    have e4 := decB_eq (m := m) (i := 4) (q := m / 10 / 10 / 10 / 10) (by simp only [Nat.reducePow]; omega)
    have e5 := decB_eq (m := m) (i := 5) (q := 0) (by simp only [Nat.reducePow]; omega)
    refine ⟨?_, by simp, by simp⟩
    unfold six; rw [e0, e1, e2, e3, e4, e5]; rfl
  have s5 := decDigits_step (u := m / 10 / 10 / 10 / 10) (by omega)
  have e4 := decB_eq (m := m) (i := 4) (q := m / 10 / 10 / 10 / 10 % 10) (by simp only [Nat.reducePow]; omega)
  rw [s1, s2, s3, s4, s5, Lib.decDigits_one (by omega)]
  have e5 := decB_eq (m := m) (i := 5) (q := m / 10 / 10 / 10 / 10 / 10) (by simp only [Nat.reducePow]; omega)
  refine ⟨?_, by simp, by simp⟩
  unfold six; rw [e0, e1, e2, e3, e4, e5]; rfl
def lastN (m : Nat) : Nat → List UInt8
  | 0 => []
  | i + 1 => decB m i :: lastN m i
theorem lastN_len (m : Nat) : ∀ i, (lastN m i).length = i
  | 0 => rfl
  | i + 1 => by rw [lastN, List.length_cons, lastN_len m i]
def uName (r : GRole) (n : Int) : List UInt8 := r.fPrefix ++ six n.toNat
theorem rem10 (q : Nat) : intBin .rem .i64 (q : Int) 10 = some (.int .i64 ((q % 10 : Nat) : Int)) := by
  rw [intBin_rem _ _ _ (by omega), Int.tmod_eq_emod_of_nonneg (by omega)]; rfl
theorem quo10 (q : Nat) (hq : q ≤ 9223372036854775807) : intBin .quo .i64 (q : Int) 10 = some (.int .i64 ((q / 10 : Nat) : Int)) := by
  rw [intBin_quo _ _ _ (by omega), Int.tdiv_eq_ediv_of_nonneg (by omega), show (q : Int) / 10 = ((q / 10 : Nat) : Int) from rfl, wrap_id (by omega) (by omega)]
theorem decB_nat (m i : Nat) : IntKind.u8.wrap (48 + ((m / 10 ^ i % 10 : Nat) : Int)) = ((decB m i).toNat : Int) := by
  unfold decB
  rw [IntKind.wrap_u8, UInt8.toNat_ofNat']; omega
theorem bytesD_cons (b : UInt8) (l : List UInt8) : bytesD (b :: l) = [[.int .u8 b.toNat]] ++ bytesD l := by simp [bytesD]
theorem s_UserName_ok (r : GRole) (n : Int) (h1 : r.fName.length ≤ 1048576) (h2 : r.fPrefix.length ≤ 1048576) (hr : roleB r = true) (hn : inB n 0 1000000000 = true) : Valid PP GG 175 [.agg r.c, .d (.int .i64 n)] (.d (.str (uName r n))) [none, none] := by
  refine cv Tryz.func175 [.d (.str (uName r n))] ?_
  have c1 := s_RoleOk_ok (GG := GG) r h1 h2
  have c2 : Valid PP GG 49 [.d (.int .i64 n), .d (.int .i64 0), .d (.int .i64 1000000000)] (.d (.bool (inB n 0 1000000000))) [none, none, none] := l01In_ok _ _ _
  rw [hr] at c1
  rw [hn] at c2
  obtain ⟨h0, h9⟩ := inB_true hn
  obtain ⟨r1, r2, r3, r4⟩ := r
  have hU : uName ⟨r1, r2, r3, r4⟩ n = r2 ++ six n.toNat := rfl
  generalize uName ⟨r1, r2, r3, r4⟩ n = U at *
  obtain ⟨m, rfl⟩ : ∃ m : Nat, n = m := ⟨n.toNat, by omega⟩
  simp only [Int.toNat_natCast] at hU
  refine u_42 (Z2 c1 c2) ?_
  refine W_loop (fun k st => ∃ i : Nat, k = 6 - i ∧ i ≤ 6 ∧ st = ⟨[], [(1, .d (.int .i64 ((m / 10 ^ i : Nat) : Int))), (2, .ptr 0 0), (5, .sl 1), (6, .d (.int .i64 i))], [(0, .box [.d (.str r1), .d (.str r2), .d (.int .i64 r3), .d (.int .i64 r4)]), (1, .arr 0 0 1 (bytesD (lastN m i)))], 2⟩) _ ⟨0, rfl, by omega, ?_⟩ ?_
  · simp [gc, closeN, liveA, gcV, gcO, renA, renAs, renO, namesAs, namesA, namesO, posn, lastN, bytesD]
  rintro k st ⟨i, rfl, hi, rfl⟩
  by_cases hlt : i < 6
  · have hq : m / 10 ^ i ≤ m := Nat.div_le_self _ _
    have f1 := rem10 (m / 10 ^ i)
    have f2 : IntKind.i64.wrap (48 + ((m / 10 ^ i % 10 : Nat) : Int)) = 48 + ((m / 10 ^ i % 10 : Nat) : Int) := wrap_id (by omega) (by omega)
    have f3 := decB_nat m i
    have f4 := quo10 (m / 10 ^ i) (by omega)
    have f5 : m / 10 ^ i / 10 = m / 10 ^ (i + 1) := by rw [Nat.div_div_eq_div_mul, Nat.pow_succ]
    have f6 : bytesD (lastN m (i + 1)) = [[.int .u8 (decB m i).toNat]] ++ bytesD (lastN m i) := bytesD_cons _ _
    have f7 := lastN_len m i
    have f8 : IntKind.i64.wrap ((i : Int) + 1) = (i : Int) + 1 := wrap_id (by omega) (by omega)
    rw [f5] at f4
    generalize m / 10 ^ i = q at *
    generalize q % 10 = q1 at *
    repeat' (first | refine W_seq ?_ | refine W_skip ?_ | refine W_block ?_ | refine W_exit ?_ | refine pick_pos rfl ?_ | refine pick_neg rfl ?_ | ((first | refine W_regP fun K hK => ?_ | refine W_regPD fun K hK => ?_ | refine W_ret ?_); simp [Fin, f1, f2, f3, f4, f7, limit]) | (with_reducible refine hK _ ?_; clear hK K) | (with_reducible refine goL_split (fun h => ?_) (fun h => ?_) <;> first | (exfalso; simp at h; first | done | omega | contradiction) | ((try simp at h); simp [f1, f2, f3, f4, f7, limit])) | with_reducible refine And.intro ?_ ?_ | with_reducible exact okay_rfl rfl | with_reducible assumption | (refine W_cond rfl (fun h => ?_) (fun h => ?_) <;> first | (exfalso; simp at h; first | done | omega | contradiction) | (exfalso; simp_all; done) | (try simp at h)) | omega)
    refine ⟨6 - (i + 1), by omega, i + 1, rfl, hlt, ?_⟩
    rw [f6]
    simp [gc, closeN, liveA, gcV, gcO, renA, renAs, renO, namesAs, namesA, namesO, posn, f8]
  · have hi6 : i = 6 := by omega
    subst hi6
    have hlen : (lastN m 6).length = 6 := lastN_len m 6
    rw [show six m = lastN m 6 from rfl] at hU
    have hso := strOf_bytesD (lastN m 6)
    generalize bytesD (lastN m 6) = BD at *
    generalize lastN m 6 = L at *
    subst hU
    dsimp only at h2
    repeat' (first | refine W_seq ?_ | refine W_skip ?_ | refine W_block ?_ | refine W_exit ?_ | refine pick_pos rfl ?_ | refine pick_neg rfl ?_ | ((first | refine W_regP fun K hK => ?_ | refine W_regPD fun K hK => ?_ | refine W_ret ?_); simp [Fin, hso, hlen, maxStr]) | (with_reducible refine hK _ ?_; clear hK K) | (with_reducible refine goL_split (fun h => ?_) (fun h => ?_) <;> first | (exfalso; simp at h; first | done | omega | contradiction) | ((try simp at h); simp [hso, hlen, maxStr])) | with_reducible refine And.intro ?_ ?_ | with_reducible exact okay_rfl rfl | with_reducible assumption | (refine W_cond rfl (fun h => ?_) (fun h => ?_) <;> first | (exfalso; simp at h; first | done | omega | contradiction) | (exfalso; simp_all; done) | (try simp at h)) | omega)
theorem remM (q : Nat) : intBin .rem .i64 (q : Int) 1000000 = some (.int .i64 ((q % 1000000 : Nat) : Int)) := by
  rw [intBin_rem _ _ _ (by omega), Int.tmod_eq_emod_of_nonneg (by omega)]; rfl
theorem sixDigits_ok [P10 GG] (m : Nat) (hm : m ≤ 1000000000) : Valid PP GG 229 [.d (.int .i64 m)] (.d (.str (six m))) [none] := by
  refine cv Tryz.func229 [.d (.str (six m))] ?_
  obtain ⟨h1, h2, h3⟩ := six_itoa m
  have f1 := remM m
  have c1 := Itoa_ok (GG := GG) ((m % 1000000 : Nat) : Int) (by have : m % 1000000 ≤ m := Nat.mod_le _ _; unfold int64; omega)
  generalize Lib.itoa ((m % 1000000 : Nat) : Int) = s at *
  have c2 := Repeat_ok (GG := GG) [48] (6 - s.length) (by simp; omega) (by omega)
  have f2 : IntKind.i64.wrap (6 - (s.length : Int)) = ((6 - s.length : Nat) : Int) := by rw [wrap_id (by omega) (by omega)]; omega
  have hl : (Lib.repeatL [48] (6 - s.length)).length = 6 - s.length := by rw [Lib.repeatL_length]; simp
  generalize Lib.repeatL [48] (6 - s.length) = z at *
  generalize ((6 - s.length : Nat) : Int) = q at *
  generalize ((m % 1000000 : Nat) : Int) = p at *
  rw [← h1]
  repeat' (first | refine W_seq ?_ | refine W_skip ?_ | refine W_block ?_ | refine W_exit ?_ | refine pick_pos rfl ?_ | refine pick_neg rfl ?_ | ((first | refine W_regP fun K hK => ?_ | refine W_regPD fun K hK => ?_ | refine W_ret ?_ | with_reducible refine callQ (c1) ?_ | with_reducible refine callQ (c2) ?_); simp [Fin, f1, f2, maxStr]) | (with_reducible refine hK _ ?_; clear hK K) | (with_reducible refine goL_split (fun h => ?_) (fun h => ?_) <;> first | (exfalso; simp at h; first | done | omega | contradiction) | ((try simp at h); simp [f1, f2, maxStr])) | with_reducible refine And.intro ?_ ?_ | with_reducible exact okay_rfl rfl | with_reducible assumption | (refine W_cond rfl (fun h => ?_) (fun h => ?_) <;> first | (exfalso; simp at h; first | done | omega | contradiction) | (exfalso; simp_all; done) | (try simp at h)) | omega)
theorem userName_ok [P10 GG] (r : GRole) (n : Int) (h2 : r.fPrefix.length ≤ 1048576) (h0 : 0 ≤ n) (hn : n ≤ 1000000000) : Valid PP GG 215 [.agg r.c, .d (.int .i64 n)] (.d (.str (uName r n))) [none, none] := by
  refine cv Tryz.func215 [.d (.str (uName r n))] ?_
  obtain ⟨m, rfl⟩ : ∃ m : Nat, n = m := ⟨n.toNat, by omega⟩
  have c1 := sixDigits_ok (GG := GG) m (by omega)
  have hU : uName r m = r.fPrefix ++ six m := rfl
  have hl : (six m).length = 6 := rfl
  generalize six m = s at *
  rw [hU]
  repeat' (first | refine W_seq ?_ | refine W_skip ?_ | refine W_block ?_ | refine W_exit ?_ | refine pick_pos rfl ?_ | refine pick_neg rfl ?_ | ((first | refine W_regP fun K hK => ?_ | refine W_regPD fun K hK => ?_ | refine W_ret ?_ | with_reducible refine callQ (c1) ?_); simp [Fin, maxStr]) | (with_reducible refine hK _ ?_; clear hK K) | (with_reducible refine goL_split (fun h => ?_) (fun h => ?_) <;> first | (exfalso; simp at h; first | done | omega | contradiction) | ((try simp at h); simp [maxStr])) | with_reducible refine And.intro ?_ ?_ | with_reducible exact okay_rfl rfl | with_reducible assumption | (refine W_cond rfl (fun h => ?_) (fun h => ?_) <;> first | (exfalso; simp at h; first | done | omega | contradiction) | (exfalso; simp_all; done) | (try simp at h)) | omega)
def uPass (key : Int) (name : List UInt8) : List UInt8 := Lib.itoa (digN (wide key ++ name))
theorem s_UserPass_ok (key : Int) (name : List UInt8) (hk : keyB key = true) (hn : nameOk name = true) (hl : name.length ≤ 1048576) : Valid PP GG 176 [.d (.int .i64 key), .d (.str name)] (.d (.str (uPass key name))) [none, none] := by
  refine cv Tryz.func176 [.d (.str (uPass key name))] ?_
  have c1 := l04Key_ok (GG := GG) key
  have c2 := l01Name_ok (GG := GG) name (by omega)
  rw [hk] at c1
  rw [hn] at c2
  have c3 := s_PutWide_ok (GG := GG) key hk
  have hwl := wide_len key
  have hU : uPass key name = Lib.itoa (digN (wide key ++ name)) := rfl
  generalize wide key = wk at *
  have c4 := l01Join_ok (GG := GG) wk name (by omega)
  have hib := ind_bytes (wk ++ name)
  have c5 := Digest_ok (GG := GG) (wk ++ name) (by rw [List.length_append]; omega)
  have hd : int64 (digN (wk ++ name)) := by have := digN_range (wk ++ name); unfold int64; omega
  generalize digN (wk ++ name) = q at *
  have c6 := l01Num_ok (GG := GG) q hd
  rw [hU]
  exact u_38 (Z6 c1 c2 c3 c4 c5 c6)
theorem userPass_ok [P10 GG] (key : Int) (name : List UInt8) (hk : keyB key = true) (hl : name.length ≤ 1048576) : Valid PP GG 217 [.d (.int .i64 key), .d (.str name)] (.d (.str (uPass key name))) [none, none] := by
  refine cv Tryz.func217 [.d (.str (uPass key name))] ?_
  have c3 := i_putWide_ok (GG := GG) key hk
  have hwl := wide_len key
  have hU : uPass key name = Lib.itoa (digN (wide key ++ name)) := rfl
  generalize wide key = wk at *
  have happ : bytesD (wk ++ name) = bytesD wk ++ bytesD name := by simp [bytesD]
  have c5 := digest_ok (GG := GG) (wk ++ name) (by rw [List.length_append]; omega)
  have hd : int64 (digN (wk ++ name)) := by have := digN_range (wk ++ name); unfold int64; omega
  generalize digN (wk ++ name) = q at *
  have c6 := Itoa_ok (GG := GG) q hd
  rw [hU]
  rw [happ] at c5
  exact u_49 (Z3 c3 c5 c6)
theorem lessN_split {α : Type} {key : α → List UInt8} (s : List UInt8) : ∀ {l : List α}, l.Pairwise (fun y x => Go.Op.bytesLess (key y) (key x) = true) →
    lessN key s l ≤ l.length ∧ (∀ (m : Nat) x, m < lessN key s l → l[m]? = some x → Go.Op.bytesLess (key x) s = true) ∧ (∀ (m : Nat) x, lessN key s l ≤ m → l[m]? = some x → Go.Op.bytesLess (key x) s = false) := by
  intro l
  induction l with
  | nil => intro _; exact ⟨Nat.le_refl _, fun m x h => by simp [lessN] at h, fun m x _ h => by simp at h⟩
  | cons a t ih =>
    intro h
    rw [List.pairwise_cons] at h
    obtain ⟨i1, i2, i3⟩ := ih h.2
    cases ha : Go.Op.bytesLess (key a) s with
    | true =>
      have e : lessN key s (a :: t) = lessN key s t + 1 := by simp [lessN, ha]
      rw [e]
      refine ⟨by simpa using i1, fun m x hm hx => ?_, fun m x hm hx => ?_⟩
      · cases m with
        | zero => simp at hx; subst hx; exact ha
        | succ m => exact i2 m x (by omega) (by simpa using hx)
      · cases m with
        | zero => omega
        | succ m => exact i3 m x (by omega) (by simpa using hx)
    | false =>
      have hall : ∀ x, x ∈ t → Go.Op.bytesLess (key x) s = false := fun x hx => by
        cases hb : Go.Op.bytesLess (key x) s with
        | false => rfl
        | true => have := bl_trans (h.1 x hx) hb; rw [ha] at this; cases this
      have e : lessN key s (a :: t) = 0 := by
        have : t.filter (fun x => Go.Op.bytesLess (key x) s) = [] := by rw [List.filter_eq_nil_iff]; intro x hx; rw [hall x hx]; simp
        simp [lessN, ha, this]
      rw [e]
      refine ⟨by omega, fun m x hm => by omega, fun m x _ hx => ?_⟩
      cases m with
      | zero => simp at hx; subst hx; exact ha
      | succ m => exact hall x (List.mem_of_getElem? (by simpa using hx))
def insAt {α : Type} (l : List α) (k : Nat) (u : α) (i : Nat) : List α := if i ≤ k then l.take i else l.take k ++ u :: (l.drop k).take (i - k)
theorem insAt_zero {α : Type} (l : List α) (k : Nat) (u : α) : insAt l k u 0 = [] := by simp [insAt]
theorem insAt_lt {α : Type} {l : List α} {k : Nat} {u x : α} {i : Nat} (h : i < k) (hx : l[i]? = some x) : insAt l k u (i + 1) = insAt l k u i ++ [x] := by
  unfold insAt
  rw [if_pos (by omega), if_pos (by omega), List.take_add_one, hx]; rfl
theorem insAt_eq {α : Type} {l : List α} {k : Nat} {u x : α} (hx : l[k]? = some x) : insAt l k u (k + 1) = insAt l k u k ++ [u] ++ [x] := by
  unfold insAt
  rw [if_neg (by omega), if_pos (by omega), show k + 1 - k = 1 by omega, List.take_one, List.head?_drop, hx]
  simp
theorem insAt_gt {α : Type} {l : List α} {k : Nat} {u x : α} {i : Nat} (h : k < i) (hx : l[i]? = some x) : insAt l k u (i + 1) = insAt l k u i ++ [x] := by
  unfold insAt
  rw [if_neg (by omega), if_neg (by omega), show i + 1 - k = (i - k) + 1 by omega, List.take_add_one, List.getElem?_drop, show k + (i - k) = i by omega, hx]
  simp
theorem insAt_all {α : Type} {l : List α} {k : Nat} {u : α} (h : k < l.length) : insAt l k u l.length = l.take k ++ u :: l.drop k := by
  unfold insAt
  rw [if_neg (by omega)]
  rw [show (l.drop k).take (l.length - k) = l.drop k from List.take_of_length_le (by rw [List.length_drop]; omega)]
theorem insAt_end {α : Type} {l : List α} {k : Nat} {u : α} (h : k = l.length) : insAt l k u l.length ++ [u] = l.take k ++ u :: l.drop k := by
  unfold insAt
  subst h
  rw [if_pos (Nat.le_refl _)]
  simp
theorem insAt_len {α : Type} (l : List α) (k : Nat) (u : α) (i : Nat) : (insAt l k u i).length ≤ l.length + 1 := by
  unfold insAt
  split
  · simp; omega
  · simp; omega
theorem s_l11At_ok (a : List GUser) (ff fm : Int) (s : List UInt8) (hl : a.length ≤ 1048576) : Valid PP GG 177 [.agg (GFar.mk a ff fm).c, .d (.str s)] (.d (.int .i64 (idxF (fun u => u.fName == s) a))) [none, none] := by
  refine cv Tryz.func177 [.d (.int .i64 (idxF (fun u => u.fName == s) a))] ?_
  refine u_35 ?_
  refine W_loop (fun n st => ∃ i : Nat, n = a.length - i ∧ i ≤ a.length ∧ (∀ x, x ∈ a.take i → (x.fName == s) = false) ∧ st = ⟨[], [(1, .d (.str s)), (2, .ptr 0 0), (5, .d (.int .i64 i))], [(0, .box [.d (.slc 2 (rUser a)), .d (.int .i64 ff), .d (.int .i64 fm)])], 1⟩) _ ⟨0, rfl, by omega, by simp, ?_⟩ ?_
  · exact u_29
  rintro n st ⟨i, rfl, hi, hn, rfl⟩
  by_cases hlt : i < a.length
  · have ha := List.getElem?_eq_getElem hlt
    generalize a[i] = x at ha
    cases hx : (x.fName == s) with
    | true =>
      rw [idxF_hit ha hn hx]
      exact u_27 (Y2 ha hx)
    | false =>
      refine u_28 (Y2 ha hx) ?_
      refine ⟨a.length - (i + 1), by omega, i + 1, rfl, hlt, fun y hy => ?_, ?_⟩
      · rw [List.take_add_one, ha, List.mem_append] at hy
        rcases hy with h | h
        · exact hn y h
        · simp at h; subst h; exact hx
      · refine u_32 ?_
        exact wrap_id (by omega) (by omega)
  · have hie : i = a.length := by omega
    subst hie
    rw [List.take_length] at hn
    rw [idxF_miss hn]
    exact u_34
def zUser : GUser := ⟨[], []⟩
def muC (f : GFar) (r : GRole) (key : Int) : Int := if (roleB r && keyB key && !decide (f.fMade = 1000000000)) = false then 1 else if 0 < f.fFail then 2 else if (f.fUsers.any fun u => u.fName == uName r (f.fMade + 1)) = true then 3 else if f.fUsers.length = 120 then 4 else 0
def muN (f : GFar) (r : GRole) (key : Int) : GUser := ⟨uName r (f.fMade + 1), uPass key (uName r (f.fMade + 1))⟩
def muU (f : GFar) (r : GRole) (key : Int) : GUser := if muC f r key = 0 then muN f r key else zUser
def putUs (l : List GUser) (u : GUser) : List GUser := l.take (lessN GUser.fName u.fName l) ++ u :: l.drop (lessN GUser.fName u.fName l)
def muF (f : GFar) (r : GRole) (key : Int) : GFar :=
  if muC f r key = 2 then { f with fFail := f.fFail - 1 } else if muC f r key = 3 then { f with fMade := f.fMade + 1 } else if muC f r key = 0 then ⟨putUs f.fUsers (muN f r key), f.fFail, f.fMade + 1⟩ else f
theorem decB_name (m i : Nat) : nameB (decB m i) = true := by
  unfold nameB decB
  have h : (UInt8.ofNat (48 + m / 10 ^ i % 10)).toNat = 48 + m / 10 ^ i % 10 := by rw [UInt8.toNat_ofNat']; omega
  rw [h, decide_eq_true_iff]
  omega
theorem uName_ok {r : GRole} (h : roleB r = true) (n : Int) : nameOk (uName r n) = true ∧ (uName r n).length ≤ 12 := by
  unfold roleB at h
  simp only [Bool.and_eq_true, decide_eq_true_eq] at h
  obtain ⟨⟨⟨⟨-, hp⟩, hl⟩, -⟩, -⟩ := h
  unfold nameOk at hp ⊢
  simp only [Bool.and_eq_true, decide_eq_true_eq] at hp ⊢
  have hlen : (uName r n).length = r.fPrefix.length + 6 := by simp [uName, six]
  refine ⟨⟨by omega, ?_⟩, by omega⟩
  unfold uName six
  rw [List.all_append, hp.2]
  simp [decB_name]
theorem s_MakeUser_ok [MaxL GG] (f : GFar) (r : GRole) (key : Int) (hf : fitFar f) (hb : farB f = true) (h1 : r.fName.length ≤ 1048576) (h2 : r.fPrefix.length ≤ 1048576) :
    Valid PP GG 107 [.agg f.c, .agg r.c, .d (.int .i64 key)] (.tup [.agg (muF f r key).o, .agg (muU f r key).o, .d (.int .i64 (muC f r key))]) [none, none, none] := by
  refine cv Tryz.func107 [.agg (muF f r key).o, .agg (muU f r key).o, .d (.int .i64 (muC f r key))] ?_
  obtain ⟨q1, q2, q3, q4, q5⟩ := (far_iff f).1 hb
  have cfo := s_FarOk_ok (GG := GG) f hf
  rw [hb] at cfo
  have cro := s_RoleOk_ok (GG := GG) r h1 h2
  have cke := l04Key_ok (GG := GG) key
  have hun := fun h => uName_ok (r := r) h (f.fMade + 1)
  have cat := fun s => s_l11At_ok (GG := GG) f.fUsers f.fFail f.fMade s hf.1
  have hsp := lessN_split (key := GUser.fName) (uName r (f.fMade + 1)) q5
  have cun := fun h h' => s_UserName_ok (GG := GG) r (f.fMade + 1) h1 h2 h h'
  have cup := fun h h' h'' => s_UserPass_ok (GG := GG) key (uName r (f.fMade + 1)) h h' h''
  have hC : muC f r key = if (roleB r && keyB key && !decide (f.fMade = 1000000000)) = false then 1 else if 0 < f.fFail then 2 else if (f.fUsers.any fun u => u.fName == uName r (f.fMade + 1)) = true then 3 else if f.fUsers.length = 120 then 4 else 0 := rfl
  have hN : muN f r key = ⟨uName r (f.fMade + 1), uPass key (uName r (f.fMade + 1))⟩ := rfl
  have hU : muU f r key = if muC f r key = 0 then muN f r key else zUser := rfl
  have hF : muF f r key = if muC f r key = 2 then { f with fFail := f.fFail - 1 } else if muC f r key = 3 then { f with fMade := f.fMade + 1 } else if muC f r key = 0 then ⟨putUs f.fUsers (muN f r key), f.fFail, f.fMade + 1⟩ else f := rfl
  have hP : putUs f.fUsers (muN f r key) = f.fUsers.take (lessN GUser.fName (uName r (f.fMade + 1)) f.fUsers) ++ muN f r key :: f.fUsers.drop (lessN GUser.fName (uName r (f.fMade + 1)) f.fUsers) := rfl
  generalize muF f r key = F at *
  generalize muU f r key = U at *
  generalize muC f r key = CC at *
  generalize muN f r key = NN at *
  generalize uName r (f.fMade + 1) = nm at *
  generalize uPass key nm = pw at *
  obtain ⟨us, ff, fm⟩ := f
  have ccp := s_l11Copy_ok (GG := GG) us ff fm (by have := hf.1; dsimp only at this; omega)
  have hff := inB_true q2
  have hfm := inB_true q3
  dsimp only at *
  have hnm := fun h => (hun h).1
  have hnl := fun h => (hun h).2
  generalize putUs us NN = PU at *
  generalize hk : lessN GUser.fName nm us = k at *
  generalize roleB r = R at *
  generalize keyB key = KB at *
  have hi3 := ind_rUser us
  obtain ⟨r1, r2, r3, r4⟩ := r
  cases R
  · simp only [Bool.false_and, if_true] at hC
    subst hC
    simp only [Int.reduceEq, if_false] at hU hF
    subst hU hF
    exact u_50 (Z3 cfo cro ccp)
  cases KB
  · simp only [Bool.and_false, Bool.false_and, if_true] at hC
    subst hC
    simp only [Int.reduceEq, if_false] at hU hF
    subst hU hF
    exact u_50 (Z4 cfo cro ccp cke)
  by_cases hmx : fm = 1000000000
  · rw [decide_eq_true hmx] at hC
    simp only [Bool.not_true, Bool.and_false, if_true] at hC
    subst hC
    simp only [Int.reduceEq, if_false] at hU hF
    subst hU hF hmx
    exact u_50 (Z4 cfo cro ccp cke)
  rw [decide_eq_false hmx] at hC
  simp only [Bool.not_false, Bool.and_self, Bool.true_eq_false, if_false] at hC
  have hmx2 : (fm == 1000000000) = false := by simpa using hmx
  by_cases hfp : 0 < ff
  · rw [if_pos hfp] at hC
    subst hC
    simp only [Int.reduceEq, if_false, if_true] at hU hF
    subst hU hF
    have hw : IntKind.i64.wrap (ff - 1) = ff - 1 := wrap_id (by omega) (by omega)
    exact u_51 (Y2 hmx2 hw) (Z4 cfo cro ccp cke)
  rw [if_neg hfp] at hC
  have cun := cun rfl (by unfold inB; simp; omega)
  have cup := cup rfl (hnm rfl) (by have := hnl rfl; omega)
  have cat := cat nm
  have hw1 : IntKind.i64.wrap (fm + 1) = fm + 1 := wrap_id (by omega) (by omega)
  have hany := idxF_any (fun u : GUser => u.fName == nm) us
  have hge : ∀ z : Int, (z ≥ 0) = (0 ≤ z) := fun z => rfl
  generalize idxF (fun u : GUser => u.fName == nm) us = ix at *
  by_cases hex : (us.any fun u => u.fName == nm) = true
  · rw [if_pos hex] at hC
    rw [hex] at hany
    subst hC
    simp only [Int.reduceEq, if_false, if_true] at hU hF
    subst hU hF
    exact u_51 (Y3 hmx2 hw1 hany) (Z7 cfo cro ccp cke cun cup cat)
  rw [if_neg hex] at hC
  have hex2 : (us.any fun u => u.fName == nm) = false := by simpa using hex
  rw [hex2] at hany
  by_cases hfull : us.length = 120
  · rw [if_pos hfull] at hC
    subst hC
    simp only [Int.reduceEq, if_false, if_true] at hU hF
    subst hU hF
    exact u_51 (Y4 hmx2 hw1 hany hfull) (Z7 cfo cro ccp cke cun cup cat)
  rw [if_neg hfull] at hC
  subst hC
  simp only [Int.reduceEq, if_false, if_true] at hU hF
  subst hU hF
  repeat' (first | refine W_seq ?_ | refine W_skip ?_ | refine W_block ?_ | refine W_exit ?_ | refine pick_pos rfl ?_ | refine pick_neg rfl ?_ | ((first | refine W_regP fun K hK => ?_ | refine W_regPD fun K hK => ?_ | refine W_ret ?_ | with_reducible refine callQ (cfo) ?_ | with_reducible refine callQ (cro) ?_ | with_reducible refine callQ (ccp) ?_ | with_reducible refine callQ (cke) ?_ | with_reducible refine callQ (cun) ?_ | with_reducible refine callQ (cup) ?_ | with_reducible refine callQ (cat) ?_); simp [Fin, zUser, hmx2, hw1, hany]) | (with_reducible refine hK _ ?_; clear hK K) | (with_reducible refine goL_split (fun h => ?_) (fun h => ?_) <;> first | (exfalso; simp at h; first | done | omega | contradiction) | ((try simp at h); simp [zUser, hmx2, hw1, hany])) | with_reducible refine And.intro ?_ ?_ | with_reducible exact okay_rfl rfl | with_reducible assumption | (refine W_cond rfl (fun h => ?_) (fun h => ?_) <;> first | (exfalso; simp at h; first | done | omega | contradiction) | (exfalso; simp_all; done) | (try simp at h)) | omega)
  subst hN
  obtain ⟨hs1, hs2, hs3⟩ := hsp
  have hx1 : ∀ m x, m < k → us[m]? = some x → Go.Op.bytesLess nm x.fName = false := fun m x h h' => bl_asymm (hs2 m x h h')
  have hx2 : ∀ m x, k ≤ m → us[m]? = some x → Go.Op.bytesLess nm x.fName = true := fun m x h h' => by
    have hne : x.fName ≠ nm := fun e => by
      rw [List.any_eq_false] at hex2
      exact hex2 x (List.mem_of_getElem? h') (by simpa using e)
    rcases bl_total hne with h2 | h2
    · rw [hs3 m x h h'] at h2; cases h2
    · exact h2
  clear cfo cro cke cun cup cat hun hnm hnl hs2 hs3 hany hex2 hex
  have hl120 : us.length ≤ 120 := q1
  refine W_nilP 9 0 rfl rfl rfl ?_
  refine W_loop (fun n st => ∃ i : Nat, n = us.length - i ∧ i ≤ us.length ∧
    st = ⟨[], [(3, .ptr 0 0), (6, .ptr 1 0), (7, .ptr 2 0), (9, .ptr 3 0), (11, .ptr 4 0), (12, .d (.bool (decide (k < i)))), (13, .d (.int .i64 i))],
      [(0, .box [.d (.slc 2 (rUser us)), .d (.int .i64 ff), .d (.int .i64 fm)]), (1, .box [.nil 0 2, .d (.int .i64 0), .d (.int .i64 0)]), (2, .box [.d (.str []), .d (.str [])]), (3, .box [.sl 5, .d (.int .i64 ff), .d (.int .i64 (fm + 1))]), (4, .box [.d (.str nm), .d (.str pw)]), (5, .arr 0 0 2 (rUser (insAt us k ⟨nm, pw⟩ i)))], 6⟩) _ ⟨0, rfl, by omega, ?_⟩ ?_
  · simp [gc, closeN, liveA, gcV, gcO, renA, renAs, renO, namesAs, namesA, namesO, posn, insAt_zero, rUser]
  rintro n st ⟨i, rfl, hi, rfl⟩
  have hlen := insAt_len us k ⟨nm, pw⟩ i
  have hil := ind_rUser (insAt us k ⟨nm, pw⟩ i)
  by_cases hlt : i < us.length
  · have ha := List.getElem?_eq_getElem hlt
    generalize us[i] = x at ha
    have hw : IntKind.i64.wrap ((i : Int) + 1) = (i : Int) + 1 := wrap_id (by omega) (by omega)
    rcases Nat.lt_trichotomy i k with hik | hik | hik
    · have e1 : rUser (insAt us k ⟨nm, pw⟩ (i + 1)) = rUser (insAt us k ⟨nm, pw⟩ i) ++ [x.row] := by rw [insAt_lt hik ha, rUser_app]; rfl
      have hb := hx1 i x hik ha
      have hll := rUser_len (insAt us k ⟨nm, pw⟩ i)
      generalize rUser (insAt us k ⟨nm, pw⟩ i) = L at *
      rw [decide_eq_false (by omega : ¬ k < i)]
      refine u_48 (Y2 ha hb) ?_
      refine ⟨us.length - (i + 1), by omega, i + 1, rfl, hlt, ?_⟩
      rw [e1, decide_eq_false (by omega : ¬ k < i + 1)]
      exact u_39 hw
    · subst hik
      have e1 : rUser (insAt us i ⟨nm, pw⟩ (i + 1)) = rUser (insAt us i ⟨nm, pw⟩ i) ++ [[.str nm, .str pw]] ++ [x.row] := by rw [insAt_eq ha, rUser_app, rUser_app]; rfl
      have hb := hx2 i x (Nat.le_refl _) ha
      have hll := rUser_len (insAt us i ⟨nm, pw⟩ i)
      generalize rUser (insAt us i ⟨nm, pw⟩ i) = L at *
      rw [decide_eq_false (by omega : ¬ i < i)]
      refine u_48 (Y2 ha hb) ?_
      refine ⟨us.length - (i + 1), by omega, i + 1, rfl, hlt, ?_⟩
      rw [e1, decide_eq_true (by omega : i < i + 1)]
      exact u_39 hw
    · have e1 : rUser (insAt us k ⟨nm, pw⟩ (i + 1)) = rUser (insAt us k ⟨nm, pw⟩ i) ++ [x.row] := by rw [insAt_gt hik ha, rUser_app]; rfl
      have hll := rUser_len (insAt us k ⟨nm, pw⟩ i)
      generalize rUser (insAt us k ⟨nm, pw⟩ i) = L at *
      rw [decide_eq_true (by omega : k < i)]
      refine u_48 ha ?_
      refine ⟨us.length - (i + 1), by omega, i + 1, rfl, hlt, ?_⟩
      rw [e1, decide_eq_true (by omega : k < i + 1)]
      exact u_39 hw
  · have hie : i = us.length := by omega
    subst hie
    have hiP := ind_rUser PU
    by_cases hkl : k < us.length
    · have e1 : insAt us k ⟨nm, pw⟩ us.length = PU := by rw [insAt_all hkl, hP]
      rw [decide_eq_true hkl]
      rw [e1] at hlen ⊢
      exact u_34
    · have e1 : rUser (insAt us k ⟨nm, pw⟩ us.length) ++ [[.str nm, .str pw]] = rUser PU := by
        have h := congrArg rUser (insAt_end (l := us) (k := k) (u := (⟨nm, pw⟩ : GUser)) (by omega))
        rw [rUser_app, ← hP] at h
        exact h
      have hll := rUser_len (insAt us k ⟨nm, pw⟩ us.length)
      generalize rUser (insAt us k ⟨nm, pw⟩ us.length) = L at *
      rw [decide_eq_false hkl]
      rw [← e1] at hiP
      exact u_47 e1
theorem makeUser_ok [MaxL GG] [P10 GG] (f : GFar) (r : GRole) (key : Int) (hf : fitFar f) (hb : farB f = true) (h1 : r.fName.length ≤ 1048576) (h2 : r.fPrefix.length ≤ 1048576) :
    Valid PP GG 180 [.agg f.c, .agg r.c, .d (.int .i64 key)] (.tup [.agg (muF f r key).o, .agg (muU f r key).o, .d (.int .i64 (muC f r key))]) [none, none, none] := by
  refine cv Tryz.func180 [.agg (muF f r key).o, .agg (muU f r key).o, .d (.int .i64 (muC f r key))] ?_
  obtain ⟨q1, q2, q3, q4, q5⟩ := (far_iff f).1 hb
  have hff := inB_true q2
  have hfm := inB_true q3
  have cro := isRole_ok (GG := GG) r h1 h2
  have cke := isKey_ok (GG := GG) key
  have hun := fun h => uName_ok (r := r) h (f.fMade + 1)
  have cui := userIndex_ok (GG := GG) f (uName r (f.fMade + 1)) hf.1 hb
  have hsp := (lessN_split (key := GUser.fName) (uName r (f.fMade + 1)) q5).1
  have cun := userName_ok (GG := GG) r (f.fMade + 1) h2 (by omega)
  have cup := fun h h' => userPass_ok (GG := GG) key (uName r (f.fMade + 1)) h h'
  have cin := InsertUser_ok (GG := GG) f.fUsers (muN f r key) (lessN GUser.fName (uName r (f.fMade + 1)) f.fUsers) hsp hf.1
  have hC : muC f r key = if (roleB r && keyB key && !decide (f.fMade = 1000000000)) = false then 1 else if 0 < f.fFail then 2 else if (f.fUsers.any fun u => u.fName == uName r (f.fMade + 1)) = true then 3 else if f.fUsers.length = 120 then 4 else 0 := rfl
  have hN : muN f r key = ⟨uName r (f.fMade + 1), uPass key (uName r (f.fMade + 1))⟩ := rfl
  have hU : muU f r key = if muC f r key = 0 then muN f r key else zUser := rfl
  have hF : muF f r key = if muC f r key = 2 then { f with fFail := f.fFail - 1 } else if muC f r key = 3 then { f with fMade := f.fMade + 1 } else if muC f r key = 0 then ⟨putUs f.fUsers (muN f r key), f.fFail, f.fMade + 1⟩ else f := rfl
  have hP : f.fUsers.take (lessN GUser.fName (uName r (f.fMade + 1)) f.fUsers) ++ muN f r key :: f.fUsers.drop (lessN GUser.fName (uName r (f.fMade + 1)) f.fUsers) = putUs f.fUsers (muN f r key) := rfl
  rw [hP] at cin
  clear hP hsp
  generalize muF f r key = F at *
  generalize muU f r key = U at *
  generalize muC f r key = CC at *
  generalize muN f r key = NN at *
  generalize uName r (f.fMade + 1) = nm at *
  generalize uPass key nm = pw at *
  obtain ⟨us, ff, fm⟩ := f
  have ccp := cloneFar_ok (GG := GG) us ff fm (by have := hf.1; dsimp only at this; omega)
  dsimp only at *
  have hnl := fun h => (hun h).2
  generalize putUs us NN = PU at *
  generalize lessN GUser.fName nm us = k at *
  generalize roleB r = R at *
  generalize keyB key = KB at *
  have hi3 := ind_rUser us
  have hi4 := ind_rUser PU
  obtain ⟨r1, r2, r3, r4⟩ := r
  cases R
  · simp only [Bool.false_and, if_true] at hC
    subst hC
    simp only [Int.reduceEq, if_false] at hU hF
    subst hU hF
    exact u_50 (Z2 cro ccp)
  cases KB
  · simp only [Bool.and_false, Bool.false_and, if_true] at hC
    subst hC
    simp only [Int.reduceEq, if_false] at hU hF
    subst hU hF
    exact u_50 (Z3 cro ccp cke)
  by_cases hmx : fm = 1000000000
  · rw [decide_eq_true hmx] at hC
    simp only [Bool.not_true, Bool.and_false, if_true] at hC
    subst hC
    simp only [Int.reduceEq, if_false] at hU hF
    subst hU hF hmx
    exact u_50 (Z3 cro ccp cke)
  rw [decide_eq_false hmx] at hC
  simp only [Bool.not_false, Bool.and_self, Bool.true_eq_false, if_false] at hC
  have hmx2 : (fm == 1000000000) = false := by simpa using hmx
  by_cases hfp : 0 < ff
  · rw [if_pos hfp] at hC
    subst hC
    simp only [Int.reduceEq, if_false, if_true] at hU hF
    subst hU hF
    have hw : IntKind.i64.wrap (ff - 1) = ff - 1 := wrap_id (by omega) (by omega)
    exact u_51 (Y2 hmx2 hw) (Z3 cro ccp cke)
  rw [if_neg hfp] at hC
  have cun := cun (by omega)
  have cup := cup rfl (by have := hnl rfl; omega)
  have hw1 : IntKind.i64.wrap (fm + 1) = fm + 1 := wrap_id (by omega) (by omega)
  by_cases hex : (us.any fun u => u.fName == nm) = true
  · rw [if_pos hex] at hC
    rw [hex] at cui
    subst hC
    simp only [Int.reduceEq, if_false, if_true] at hU hF
    subst hU hF
    exact u_51 (Y2 hmx2 hw1) (Z5 cro ccp cke cun cui)
  rw [if_neg hex] at hC
  have hex2 : (us.any fun u => u.fName == nm) = false := by simpa using hex
  rw [hex2] at cui
  by_cases hfull : us.length = 120
  · rw [if_pos hfull] at hC
    subst hC
    simp only [Int.reduceEq, if_false, if_true] at hU hF
    subst hU hF
    exact u_51 (Y3 hmx2 hw1 hfull) (Z5 cro ccp cke cun cui)
  rw [if_neg hfull] at hC
  subst hC
  simp only [Int.reduceEq, if_false, if_true] at hU hF
  subst hU hF hN
  have hfull2 : ((us.length : Int) == 120) = false := by simp; omega
  exact u_51 (Y3 hmx2 hw1 hfull2) (Z7 cro ccp cke cun cui cup cin)
def guOk (w : GWorld) (tok : Int) (r : GRole) (key : Int) (path : List UInt8) : Bool := roleB r && keyB key && grantB w tok path r.fTtl r.fLimit && !decide (w.fFar.fMade = 1000000000)
def guC (w : GWorld) (tok : Int) (r : GRole) (key : Int) (path : List UInt8) : Int := if guOk w tok r key path = false then 1 else if muC w.fFar r key = 0 then 0 else 2
def guU (w : GWorld) (tok : Int) (r : GRole) (key : Int) (path : List UInt8) : GUser := if guC w tok r key path = 0 then muU w.fFar r key else zUser
def guI (w : GWorld) (tok : Int) (r : GRole) (key : Int) (path : List UInt8) : Int := if guC w tok r key path = 0 then w.fNext else 0
def guW (w : GWorld) (tok : Int) (r : GRole) (key : Int) (path : List UInt8) : GWorld :=
  if guC w tok r key path = 1 then w else if guC w tok r key path = 2 then { w with fFar := muF w.fFar r key } else { grantW w tok path r.fTtl r.fLimit with fFar := muF w.fFar r key, fOwned := w.fOwned ++ [⟨w.fNext, (muU w.fFar r key).fName⟩] }
theorem world_far {w : GWorld} (h : worldB w = true) : farB w.fFar = true := by
  unfold worldB at h; simp only [Bool.and_eq_true] at h; exact h.1.1.1.1.2
theorem grant_is {w : GWorld} {tok : Int} {path : List UInt8} {ttl limit : Int} : (grantB w tok path ttl limit = false ∧ grantI w tok path ttl limit = 0 ∧ grantW w tok path ttl limit = w) ∨
    (worldB w = true ∧ grantB w tok path ttl limit = true ∧ grantI w tok path ttl limit = w.fNext ∧ 1 ≤ w.fNext ∧ grantW w tok path ttl limit = { w with fBook := ⟨w.fBook.fLeases ++ [newL w tok path ttl limit]⟩, fNext := w.fNext + 1 }) := by
  cases h : grantB w tok path ttl limit with
  | false => exact .inl ⟨rfl, by unfold grantI; rw [h]; rfl, by unfold grantW; rw [h]; rfl⟩
  | true =>
    have hw : worldB w = true := by unfold grantB at h; simp only [Bool.and_eq_true] at h; exact h.1.1
    exact .inr ⟨hw, rfl, by unfold grantI; rw [h]; rfl, (world_nums hw).2.1.1, by unfold grantW; rw [h]; rfl⟩
theorem s_GrantUser_ok [MaxL GG] (w : GWorld) (tok : Int) (r : GRole) (key : Int) (path : List UInt8) (hf : fitW w) (hp : path.length ≤ 1048576) (h1 : r.fName.length ≤ 1048576) (h2 : r.fPrefix.length ≤ 1048576) :
    Valid PP GG 40 [.agg w.c, .d (.int .i64 tok), .agg r.c, .d (.int .i64 key), .d (.str path)] (.tup [.agg (guW w tok r key path).o, .agg (guU w tok r key path).o, .d (.int .i64 (guI w tok r key path)), .d (.int .i64 (guC w tok r key path))]) [none, none, none, none, none] := by
  refine cv Tryz.func40 [.agg (guW w tok r key path).o, .agg (guU w tok r key path).o, .d (.int .i64 (guI w tok r key path)), .d (.int .i64 (guC w tok r key path))] ?_
  have cro := s_RoleOk_ok (GG := GG) r h1 h2
  have cke := l04Key_ok (GG := GG) key
  have ccp := s_l16Copy_ok (GG := GG) w hf
  have cgl := s_GrantLease_ok (GG := GG) w tok path r.fTtl r.fLimit hf hp
  have cmu := fun h => s_MakeUser_ok (GG := GG) w.fFar r key hf.2.2.1 h h1 h2
  have hK : guOk w tok r key path = (roleB r && keyB key && grantB w tok path r.fTtl r.fLimit && !decide (w.fFar.fMade = 1000000000)) := rfl
  have hC : guC w tok r key path = if guOk w tok r key path = false then 1 else if muC w.fFar r key = 0 then 0 else 2 := rfl
  have hU : guU w tok r key path = if guC w tok r key path = 0 then muU w.fFar r key else zUser := rfl
  have hI : guI w tok r key path = if guC w tok r key path = 0 then w.fNext else 0 := rfl
  have hW : guW w tok r key path = if guC w tok r key path = 1 then w else if guC w tok r key path = 2 then { w with fFar := muF w.fFar r key } else { grantW w tok path r.fTtl r.fLimit with fFar := muF w.fFar r key, fOwned := w.fOwned ++ [⟨w.fNext, (muU w.fFar r key).fName⟩] } := rfl
  have hol := hf.2.2.2.2.1
  have hgi := grant_is (w := w) (tok := tok) (path := path) (ttl := r.fTtl) (limit := r.fLimit)
  have hfa := fun h => world_far (w := w) h
  generalize guW w tok r key path = W at *
  generalize guU w tok r key path = U at *
  generalize guI w tok r key path = I at *
  generalize guC w tok r key path = CC at *
  generalize guOk w tok r key path = OK at *
  generalize muF w.fFar r key = F at *
  generalize muU w.fFar r key = MU at *
  generalize muC w.fFar r key = MC at *
  generalize newL w tok path r.fTtl r.fLimit = NL at *
  generalize grantW w tok path r.fTtl r.fLimit = GW at *
  generalize grantI w tok path r.fTtl r.fLimit = GI at *
  generalize grantB w tok path r.fTtl r.fLimit = GB at *
  obtain ⟨now, next, lost, ⟨tk⟩, ⟨ls⟩, ⟨us, ff, fm⟩, ⟨js⟩, ow⟩ := w
  obtain ⟨r1, r2, r3, r4⟩ := r
  generalize roleB ⟨r1, r2, r3, r4⟩ = R at *
  generalize keyB key = KB at *
  dsimp only at *
  have hi1 := ind_rToken tk
  have hi2 := ind_rLease ls
  have hi3 := ind_rUser us
  have hi4 := ind_rJob js
  have hi5 := ind_rOwned ow
  cases R
  · simp only [Bool.false_and] at hK
    subst hK
    simp only [if_true] at hC
    subst hC
    simp only [Int.reduceEq, if_false, if_true] at hU hI hW
    subst hU hI hW
    exact u_50 (Z2 cro ccp)
  cases KB
  · simp only [Bool.and_false, Bool.false_and] at hK
    subst hK
    simp only [if_true] at hC
    subst hC
    simp only [Int.reduceEq, if_false, if_true] at hU hI hW
    subst hU hI hW
    exact u_50 (Z3 cro cke ccp)
  rcases hgi with ⟨rfl, rfl, rfl⟩ | ⟨hwb, rfl, e1, hnx, rfl⟩
  · simp only [Bool.and_false, Bool.false_and] at hK
    subst hK
    simp only [if_true] at hC
    subst hC
    simp only [Int.reduceEq, if_false, if_true] at hU hI hW
    subst hU hI hW
    exact u_50 (Z4 cro cke ccp cgl)
  rw [e1] at cgl
  clear e1
  have hnz : (next == 0) = false := by simp; omega
  have cmu := cmu (hfa hwb)
  by_cases hmx : fm = 1000000000
  · rw [decide_eq_true hmx] at hK
    simp only [Bool.not_true, Bool.and_false] at hK
    subst hK
    simp only [if_true] at hC
    subst hC
    simp only [Int.reduceEq, if_false, if_true] at hU hI hW
    subst hU hI hW hmx
    have hi6 := ind_rLease (ls ++ [NL])
    exact u_51 hnz (Z4 cro cke ccp cgl)
  have hmx2 : (fm == 1000000000) = false := by simpa using hmx
  rw [decide_eq_false hmx] at hK
  simp only [Bool.not_false, Bool.and_self] at hK
  subst hK
  simp only [Bool.true_eq_false, if_false] at hC
  have hi6 := ind_rLease (ls ++ [NL])
  obtain ⟨fu, f1, f2⟩ := F
  have hi7 := ind_rUser fu
  obtain ⟨mn, mp⟩ := MU
  by_cases hmc : MC = 0
  · rw [if_pos hmc] at hC
    subst hC hmc
    simp only [Int.reduceEq, if_false, if_true] at hU hI hW
    subst hU hW
    rw [hI]
    clear hI
    have hrl := rOwned_len ow
    refine u_46 (Y2 hnz hmx2) (Z5 cro cke ccp cgl cmu) ?_
    rw [rOwned_app]; rfl
  · rw [if_neg hmc] at hC
    subst hC
    simp only [Int.reduceEq, if_false, if_true] at hU hI hW
    subst hU hI hW
    have hmc2 : (MC == 0) = false := by simpa using hmc
    exact u_51 (Y3 hnz hmx2 hmc2) (Z5 cro cke ccp cgl cmu)
theorem grantUser_ok [MaxL GG] [P10 GG] (w : GWorld) (tok : Int) (r : GRole) (key : Int) (path : List UInt8) (hf : fitW w) (hwb : worldB w = true) (hp : path.length ≤ 1048576) (h1 : r.fName.length ≤ 1048576) (h2 : r.fPrefix.length ≤ 1048576) :
    Valid PP GG 108 [.agg w.c, .d (.int .i64 tok), .agg r.c, .d (.int .i64 key), .d (.str path)] (.tup [.agg (guW w tok r key path).o, .agg (guU w tok r key path).o, .d (.int .i64 (guI w tok r key path)), .d (.int .i64 (guC w tok r key path))]) [none, none, none, none, none] := by
  refine cv Tryz.func108 [.agg (guW w tok r key path).o, .agg (guU w tok r key path).o, .d (.int .i64 (guI w tok r key path)), .d (.int .i64 (guC w tok r key path))] ?_
  have cro := isRole_ok (GG := GG) r h1 h2
  have cke := isKey_ok (GG := GG) key
  have ccp := cloneWorld_ok (GG := GG) w hf
  have cgl := grantLease_ok (GG := GG) w tok path r.fTtl r.fLimit hf hp hwb
  have cmu := makeUser_ok (GG := GG) w.fFar r key hf.2.2.1 (world_far hwb) h1 h2
  have hK : guOk w tok r key path = (roleB r && keyB key && grantB w tok path r.fTtl r.fLimit && !decide (w.fFar.fMade = 1000000000)) := rfl
  have hC : guC w tok r key path = if guOk w tok r key path = false then 1 else if muC w.fFar r key = 0 then 0 else 2 := rfl
  have hU : guU w tok r key path = if guC w tok r key path = 0 then muU w.fFar r key else zUser := rfl
  have hI : guI w tok r key path = if guC w tok r key path = 0 then w.fNext else 0 := rfl
  have hW : guW w tok r key path = if guC w tok r key path = 1 then w else if guC w tok r key path = 2 then { w with fFar := muF w.fFar r key } else { grantW w tok path r.fTtl r.fLimit with fFar := muF w.fFar r key, fOwned := w.fOwned ++ [⟨w.fNext, (muU w.fFar r key).fName⟩] } := rfl
  have hol := hf.2.2.2.2.1
  have hgi := grant_is (w := w) (tok := tok) (path := path) (ttl := r.fTtl) (limit := r.fLimit)
  generalize guW w tok r key path = W at *
  generalize guU w tok r key path = U at *
  generalize guI w tok r key path = I at *
  generalize guC w tok r key path = CC at *
  generalize guOk w tok r key path = OK at *
  generalize muF w.fFar r key = F at *
  generalize muU w.fFar r key = MU at *
  generalize muC w.fFar r key = MC at *
  generalize newL w tok path r.fTtl r.fLimit = NL at *
  generalize grantW w tok path r.fTtl r.fLimit = GW at *
  generalize grantI w tok path r.fTtl r.fLimit = GI at *
  generalize grantB w tok path r.fTtl r.fLimit = GB at *
  obtain ⟨now, next, lost, ⟨tk⟩, ⟨ls⟩, ⟨us, ff, fm⟩, ⟨js⟩, ow⟩ := w
  obtain ⟨r1, r2, r3, r4⟩ := r
  generalize roleB ⟨r1, r2, r3, r4⟩ = R at *
  generalize keyB key = KB at *
  dsimp only at *
  have hi1 := ind_rToken tk
  have hi2 := ind_rLease ls
  have hi3 := ind_rUser us
  have hi4 := ind_rJob js
  have hi5 := ind_rOwned ow
  cases R
  · simp only [Bool.false_and] at hK
    subst hK
    simp only [if_true] at hC
    subst hC
    simp only [Int.reduceEq, if_false, if_true] at hU hI hW
    subst hU hI hW
    exact u_50 (Z2 cro ccp)
  cases KB
  · simp only [Bool.and_false, Bool.false_and] at hK
    subst hK
    simp only [if_true] at hC
    subst hC
    simp only [Int.reduceEq, if_false, if_true] at hU hI hW
    subst hU hI hW
    exact u_50 (Z3 cro cke ccp)
  by_cases hmx : fm = 1000000000
  · rw [decide_eq_true hmx] at hK
    simp only [Bool.not_true, Bool.and_false] at hK
    subst hK
    simp only [if_true] at hC
    subst hC
    simp only [Int.reduceEq, if_false, if_true] at hU hI hW
    subst hU hI hW hmx
    exact u_50 (Z3 cro cke ccp)
  have hmx2 : (fm == 1000000000) = false := by simpa using hmx
  rw [decide_eq_false hmx] at hK
  rcases hgi with ⟨rfl, rfl, rfl⟩ | ⟨-, rfl, e1, hnx, rfl⟩
  · simp only [Bool.and_false, Bool.false_and] at hK
    subst hK
    simp only [if_true] at hC
    subst hC
    simp only [Int.reduceEq, if_false, if_true] at hU hI hW
    subst hU hI hW
    exact u_51 hmx2 (Z4 cro cke ccp cgl)
  rw [e1] at cgl
  clear e1
  have hnz : (next == 0) = false := by simp; omega
  simp only [Bool.not_false, Bool.and_self] at hK
  subst hK
  simp only [Bool.true_eq_false, if_false] at hC
  have hi6 := ind_rLease (ls ++ [NL])
  obtain ⟨fu, f1, f2⟩ := F
  have hi7 := ind_rUser fu
  obtain ⟨mn, mp⟩ := MU
  by_cases hmc : MC = 0
  · rw [if_pos hmc] at hC
    subst hC hmc
    simp only [Int.reduceEq, if_false, if_true] at hU hI hW
    subst hU hW
    rw [hI]
    clear hI
    have hrl := rOwned_len ow
    refine u_46 (Y2 hnz hmx2) (Z5 cro cke ccp cgl cmu) ?_
    rw [rOwned_app]; rfl
  · rw [if_neg hmc] at hC
    subst hC
    simp only [Int.reduceEq, if_false, if_true] at hU hI hW
    subst hU hI hW
    have hmc2 : (MC == 0) = false := by simpa using hmc
    exact u_51 (Y3 hnz hmx2 hmc2) (Z5 cro cke ccp cgl cmu)
theorem gu_bad {w : GWorld} {tok : Int} {r : GRole} {key : Int} {path : List UInt8} (h : worldB w = false) : guW w tok r key path = w ∧ guU w tok r key path = zUser ∧ guI w tok r key path = 0 ∧ guC w tok r key path = 1 := by
  have hg : grantB w tok path r.fTtl r.fLimit = false := by unfold grantB; rw [h]; rfl
  have hk : guOk w tok r key path = false := by unfold guOk; rw [hg]; simp
  have hc : guC w tok r key path = 1 := by unfold guC; rw [hk]; rfl
  unfold guW guU guI
  rw [hc]
  exact ⟨rfl, rfl, rfl, rfl⟩
theorem i_GrantUser_ok [MaxL GG] [P10 GG] (w : GWorld) (tok : Int) (r : GRole) (key : Int) (path : List UInt8) (hf : fitW w) (hp : path.length ≤ 1048576) (h1 : r.fName.length ≤ 1048576) (h2 : r.fPrefix.length ≤ 1048576) :
    Valid PP GG 42 [.agg w.c, .d (.int .i64 tok), .agg r.c, .d (.int .i64 key), .d (.str path)] (.tup [.agg (guW w tok r key path).o, .agg (guU w tok r key path).o, .d (.int .i64 (guI w tok r key path)), .d (.int .i64 (guC w tok r key path))]) [none, none, none, none, none] := by
  refine cv Tryz.func42 [.agg (guW w tok r key path).o, .agg (guU w tok r key path).o, .d (.int .i64 (guI w tok r key path)), .d (.int .i64 (guC w tok r key path))] ?_
  have cw := isWorld_ok (GG := GG) w hf
  have ccp := cloneWorld_ok (GG := GG) w hf
  have cgu := fun h => grantUser_ok (GG := GG) w tok r key path hf h hp h1 h2
  have hbad := fun h => gu_bad (w := w) (tok := tok) (r := r) (key := key) (path := path) h
  generalize guW w tok r key path = W at *
  generalize guU w tok r key path = U at *
  generalize guI w tok r key path = I at *
  generalize guC w tok r key path = CC at *
  have hi1 := ind_rToken W.fForest.fTokens
  have hi2 := ind_rLease W.fBook.fLeases
  have hi3 := ind_rUser W.fFar.fUsers
  have hi4 := ind_rJob W.fQueue.fJobs
  have hi5 := ind_rOwned W.fOwned
  cases h : worldB w with
  | false =>
    rw [h] at cw
    obtain ⟨rfl, rfl, rfl, rfl⟩ := hbad h
    exact u_50 (Z2 cw ccp)
  | true =>
    rw [h] at cw
    have cgu := cgu h
    exact u_38 (Z2 cw cgu)
theorem muU_small (f : GFar) (r : GRole) (key : Int) : (muU f r key).fName.length ≤ 12 ∧ (muU f r key).fPass.length ≤ 21 := by
  unfold muU
  split
  · rename_i h
    have hr : roleB r = true := by
      cases hx : roleB r with
      | true => rfl
      | false => unfold muC at h; rw [hx] at h; simp at h
    unfold muN
    refine ⟨(uName_ok hr _).2, ?_⟩
    unfold uPass
    have := digN_range (wide key ++ uName r (f.fMade + 1))
    exact Lib.itoa_length_le (digN (wide key ++ uName r (f.fMade + 1))) (by omega) (by omega)
  · exact ⟨by simp [zUser], by simp [zUser]⟩
theorem muF_cost (f : GFar) (r : GRole) (key : Int) : (muF f r key).cost ≤ f.cost + 40 := by
  unfold muF
  split
  · exact Nat.le_add_right _ _
  · split
    · exact Nat.le_add_right _ _
    · split
      · rename_i h
        have hs := muU_small f r key
        unfold muU at hs
        rw [if_pos h] at hs
        generalize muN f r key = u at *
        have e : ∀ g : GFar, g.cost = g.fUsers.length + sumBy GUser.cost g.fUsers := fun _ => rfl
        rw [e, e]
        dsimp only
        unfold putUs
        have h1 := List.take_append_drop (lessN GUser.fName u.fName f.fUsers) f.fUsers
        generalize f.fUsers.take (lessN GUser.fName u.fName f.fUsers) = A at *
        generalize f.fUsers.drop (lessN GUser.fName u.fName f.fUsers) = B at *
        rw [← h1, show A ++ u :: B = A ++ ([u] ++ B) from rfl, sumBy_append, sumBy_append, sumBy_append, sumBy_one]
        have : u.cost = u.fName.length + u.fPass.length := rfl
        simp only [List.length_append, List.length_cons, List.length_nil]
        omega
      · exact Nat.le_add_right _ _
theorem guW_cost (w : GWorld) (tok : Int) (r : GRole) (key : Int) (path : List UInt8) : (guW w tok r key path).cost ≤ w.cost + path.length + 100 := by
  have e : ∀ w : GWorld, w.cost = w.fForest.cost + w.fBook.cost + w.fFar.cost + w.fQueue.cost + (w.fOwned.length + sumBy GOwned.cost w.fOwned) := fun _ => rfl
  have hF := muF_cost w.fFar r key
  have hU := (muU_small w.fFar r key).1
  have hG := grantW_cost w tok path r.fTtl r.fLimit
  have hgi := grant_is (w := w) (tok := tok) (path := path) (ttl := r.fTtl) (limit := r.fLimit)
  unfold guW
  split
  · omega
  · split
    · rw [e, e w]; dsimp only; omega
    · have h3 : (grantW w tok path r.fTtl r.fLimit).fFar = w.fFar ∧ (grantW w tok path r.fTtl r.fLimit).fOwned = w.fOwned := by
        rcases hgi with ⟨-, -, h⟩ | ⟨-, -, -, -, h⟩ <;> rw [h] <;> exact ⟨rfl, rfl⟩
      rw [e, e w]
      rw [e, e w, h3.1, h3.2] at hG
      dsimp only
      rw [sumBy_append, sumBy_one, List.length_append]
      have : GOwned.cost ⟨w.fNext, (muU w.fFar r key).fName⟩ = (muU w.fFar r key).fName.length := rfl
      simp only [List.length_cons, List.length_nil]
      omega
theorem law_GrantUser [MaxL GG] [P10 GG] (w : GWorld) (tok : Int) (r : GRole) (key : Int) (path : List UInt8) (hok : w.ok) (hrk : r.ok) (hpl : path.length ≤ maxLen) : Valid PP GG 10 [.agg w.c, .d (.int .i64 tok), .agg r.c, .d (.int .i64 key), .d (.str path)] (.d (.bool true)) [none, none, none, none, none] := by
  refine cv Tryz.func10 [.d (.bool true)] ?_
  have hmx : maxLen = 9223372036854775807 := rfl
  by_cases hp : path.length ≤ 1048576
  rotate_left
  · have hp2 : 1048576 < path.length := by omega
    exact u_27 hp2
  have hp2 : ¬ 1048576 < path.length := by omega
  have csz := szWorld_g (GG := GG) w 1048576 hok ⟨by omega, by omega⟩
  by_cases hcost : w.cost ≤ 1048576
  rotate_left
  · rw [leftR_no (by omega)] at csz
    exact u_36 hp2 (Z1 csz)
  rw [leftR_yes (by omega)] at csz
  have csr := szRole_g (GG := GG) r (1048576 - w.cost) hrk ⟨by omega, by omega⟩
  by_cases hcr : (r.cost : Int) ≤ 1048576 - w.cost
  rotate_left
  · rw [leftR_no (by omega)] at csr
    have hn : ¬ (1048576 - (w.cost : Int) < 0) := by omega
    exact u_36 (Y2 hp2 hn) (Z2 csz csr)
  rw [leftR_yes (by omega)] at csr
  have hrc : r.cost = r.fName.length + r.fPrefix.length := rfl
  have hn1 : ¬ (1048576 - (w.cost : Int) < 0) := by omega
  have hn2 : ¬ (1048576 - (w.cost : Int) - (r.cost : Int) < 0) := by omega
  have ct := toWorld_g (GG := GG) w (by omega)
  have ctr := toRole_g (GG := GG) r (by omega)
  have cex := eqWorld_g (GG := GG) w w (by omega) (by omega)
  rw [decide_eq_true rfl] at cex
  have hmr := world_marks (w := w) (by omega)
  have ck := markWorld_g (GG := GG) w 1 (by omega) ⟨by omega, by omega⟩
  simp only [GWorld.markIn, GForest.markIn, GBook.markIn, GFar.markIn, GQueue.markIn] at ck
  have cs := s_GrantUser_ok (GG := GG) w tok r key path (fitW_of hcost) hp (by omega) (by omega)
  have ci := i_GrantUser_ok (GG := GG) w tok r key path (fitW_of hcost) hp (by omega) (by omega)
  have hgc := guW_cost w tok r key path
  have hus : (guU w tok r key path).cost ≤ 1000 := by
    unfold guU
    split
    · have := muU_small w.fFar r key
      show _ + _ ≤ 1000
      omega
    · simp [zUser, GUser.cost]
  generalize guW w tok r key path = g at *
  generalize guI w tok r key path = j at *
  generalize guU w tok r key path = u at *
  generalize guC w tok r key path = q at *
  have ce := eqWorld_g (GG := GG) g g (by omega) (by omega)
  rw [decide_eq_true rfl] at ce
  have cu := eqUser_g (GG := GG) u u (by omega) (by omega)
  rw [decide_eq_true rfl] at cu
  have hmg := world_marks (w := g) (by omega)
  have cm := markWorld_g (GG := GG) g 1 (by omega) ⟨by omega, by omega⟩
  have ch := heldWorld_g (GG := GG) g 1 (by omega) ⟨by omega, by omega⟩
  simp only [GWorld.markIn, GForest.markIn, GBook.markIn, GFar.markIn, GQueue.markIn] at cm ch
  have hi1 := ind_rToken g.fForest.fTokens
  have hi2 := ind_rLease g.fBook.fLeases
  have hi3 := ind_rUser g.fFar.fUsers
  have hi4 := ind_rJob g.fQueue.fJobs
  have hi5 := ind_rOwned g.fOwned
  repeat' (first | refine W_seq ?_ | refine W_skip ?_ | refine W_block ?_ | (refine W_exit ?_; first | refine pick_pos rfl ?_ | (refine pick_neg rfl ?_; first | refine pick_pos rfl ?_ | (refine pick_neg rfl ?_; refine pick_pos rfl ?_))) | (refine W_regP fun K hK => ?_; simp [hp2, hn1, hn2]) | (refine W_regPD fun K hK => ?_; simp [hp2, hn1, hn2]) | (with_reducible refine hK _ ?_; clear hK K) | (with_reducible refine callQ (csz) ?_; simp [hp2, hn1, hn2]) | (with_reducible refine callQ (csr) ?_; simp [hp2, hn1, hn2]) | (with_reducible refine callQ (ct) ?_; simp [hp2, hn1, hn2]) | (with_reducible refine callQ (ctr) ?_; simp [hp2, hn1, hn2]) | (with_reducible refine callQ (cs) ?_; simp [hp2, hn1, hn2]) | (with_reducible refine callQ (ci) ?_; simp [hp2, hn1, hn2]) | (with_reducible refine callQ (cex) ?_; simp [hp2, hn1, hn2]) | (with_reducible refine callQ (ce) ?_; simp [hp2, hn1, hn2]) | (with_reducible refine callQ (cu) ?_; simp [hp2, hn1, hn2]) | (with_reducible refine callQ (ck) ?_; simp [hp2, hn1, hn2]) | (with_reducible refine callQ (cm) ?_; simp [hp2, hn1, hn2]) | (with_reducible refine callQ (ch) ?_; simp [hp2, hn1, hn2]) | (with_reducible refine goL_split (fun h => ?_) (fun h => ?_) <;> first | (exfalso; simp at h; done) | (exfalso; simp at h; omega) | (exfalso; simp at h; contradiction) | ((try simp at h); simp [hp2, hn1, hn2])) | with_reducible refine And.intro ?_ ?_ | with_reducible exact okay_rfl rfl | with_reducible assumption | (refine W_cond rfl (fun h => ?_) (fun h => ?_) <;> first | (exfalso; simp at h; done) | (exfalso; simp at h; omega) | (exfalso; simp at h; contradiction) | (exfalso; simp_all; done) | (try simp at h)) | (refine W_ret ?_; simp [Fin, hp2, hn1, hn2]) | omega)
end Go.Proofs.YtdckkojgnkoabaaGreatDoor.Ab
