/-
  A part of a proof about the given program; what is proved is said where each theorem stands.
-/
import Derived.Test.YtpboimnecoakiaaDoorFrameA
import Derived.Test.YtpboimnecoakiaaDoorFrameB
import Derived.Test.YtpboimnecoakiaaDoorFrameC
import Derived.Test.YtpboimnecoakiaaDoorFrameD
import Derived.Test.YtpboimnecoakiaaDoorFrameE
import Derived.Test.YtpboimnecoakiaaDoorShelf
import Derived.Test.YtpboimnecoakiaaDoorCodesP
import Derived.Test.YtpboimnecoakiaaDoorPartA
import Derived.Test.YtpboimnecoakiaaDoorPartB
import Derived.Test.YtpboimnecoakiaaDoorPartC
namespace Go.Proofs
end Go.Proofs
set_option linter.unusedSimpArgs false
set_option linter.unusedVariables false
set_option maxRecDepth 100000
set_option maxHeartbeats 2000000
namespace Go.Proofs.YtpboimnecoakiaaDoor.Ab
open Go.Proofs
variable {GG : GV}

def optW (s : List UInt8) : List UInt8 := if s = [] then [46] else s

def swp (a b : UInt8) (s : List UInt8) : List UInt8 := s.map fun x => if x = a then b else x

theorem swp_len (a b : UInt8) (s : List UInt8) : (swp a b s).length = s.length := by simp [swp]

theorem replaceK_cons {b c : UInt8} (h : b ≠ c) (new : List UInt8) : ∀ (k : Nat) (l : List UInt8), Lib.replaceK [c] new k (b :: l) = b :: Lib.replaceK [c] new k l := by
  intro k l
  cases k with
  | zero => rfl
  | succ k =>
    have hp : ([c] : List UInt8).isPrefixOf (b :: l) = false := by simp [List.isPrefixOf, Ne.symm h]
    have hix : Lib.index (b :: l) [c] = if Lib.index l [c] == -1 then -1 else Lib.index l [c] + 1 := by rw [Lib.index, hp]; simp
    unfold Lib.replaceK
    rw [hix]
    have hge := Lib.index_ge l [c]
    by_cases hm : Lib.index l [c] = -1
    · rw [hm]; simp
    · obtain ⟨j, hj⟩ : ∃ j : Nat, Lib.index l [c] = j := ⟨(Lib.index l [c]).toNat, by omega⟩
      have h1 : ¬ ((j : Int) == -1) = true := fun e => by have := beq_iff_eq.1 e; omega
      have h2 : ¬ ((j : Int) + 1 == -1) = true := fun e => by have := beq_iff_eq.1 e; omega
      rw [hj, if_neg h1, if_neg h1, if_neg h2]
      have e1 : ((j : Int) + 1).toNat = j + 1 := by omega
      simp [e1]

theorem replace_swp {a b : UInt8} (hab : a ≠ b) (s : List UInt8) : Lib.replaceAll s [a] [b] = swp a b s := by
  have hk : ∀ s : List UInt8, Lib.replaceK [a] [b] (Lib.count s [a]) s = swp a b s := by
    intro s
    induction s with
    | nil => rw [Lib.count_one]; rfl
    | cons x r ih =>
      by_cases h : x = a
      · subst h
        have hix : Lib.index (x :: r) [x] = 0 := by rw [Lib.index]; simp [List.isPrefixOf]
        rw [Lib.count_cons_eq, show 1 + Lib.count r [x] = Lib.count r [x] + 1 by omega, Lib.replaceK, hix]
        simp [ih, swp]
      · rw [Lib.count_cons_ne x a r h, replaceK_cons h, ih]
        simp [swp, h]
  unfold Lib.replaceAll Lib.replace
  have hne : (([a] : List UInt8) == [b]) = false := by simp [hab]
  rw [hne]
  have hn : Lib.replaceNum s [a] (-1) = Lib.count s [a] := by unfold Lib.replaceNum; rw [if_pos (.inl (by omega))]
  simp only [Bool.false_eq_true, if_false, hn]
  exact hk s

theorem args_strs {w : World} {Fz : PSet} {args : Array Value} (ss : List (List UInt8)) (hl : args.size = (ss.map D.str).length) (hA : ∀ (i : Nat) d, (ss.map D.str)[i]? = some d → Shr w Fz (args.getD i Go.undef) d) :
    args = (ss.map fun s => Value.string ⟨s.toArray⟩).toArray := by
  refine args_eq (l := ss.map fun s => Value.string ⟨s.toArray⟩) (by simpa using hl) fun i v hv => ?_
  rw [List.getElem?_map] at hv
  obtain ⟨s, hs, rfl⟩ := Option.map_eq_some_iff.1 hv
  exact shr_str (hA i (.str s) (by simp [hs]))

theorem ReplaceAll_ok [MaxL GG] (s : List UInt8) (a b : UInt8) (hab : a ≠ b) (hs : s.length ≤ 2000000) : Valid PP GG 125 [.d (.str s), .d (.str [a]), .d (.str [b])] (.d (.str (swp a b s))) [none, none, none] := by
  refine lib_new [.str s, .str [a], .str [b]] ⟨Tryd.f125, Tryd.func125, by kernel_rfl, by kernel_rfl⟩ fun w Fz args hG hFz hl hA => ?_
  have e := args_strs [s, [a], [b]] hl hA
  subst e
  obtain ⟨ob, h1, h2⟩ := hG 0 _ MaxL.h
  cases ob with
  | cells cs t fr =>
    obtain ⟨m, h3⟩ := h2
    have hcl : Lib.countB ⟨s.toArray⟩ ⟨#[a]⟩ ≤ s.length + 1 := Lib.count_le s [a]
    refine (Go.Proofs.YtpboimnecoakiaaDoor.Tryd.strings_ReplaceAll ⟨s.toArray⟩ ⟨#[a]⟩ ⟨#[b]⟩ m w (by show s.length < _; omega) (by unfold World.cell?; simp [h1, h3]) (Nat.le_refl 1) (by show s.length + _ * 1 ≤ _; omega)).mono ?_
    rintro e w' ⟨rfl, hb⟩
    refine ⟨_, Fz, fun _ _ => False, rfl, ⟨hb.os, hb.output⟩, hb.size, fun b h => hb.block b h, fun _ _ h => h, fun b o h => ⟨.inl h, Nat.lt_of_lt_of_le (hFz b o h) hb.size⟩, ?_, fun _ _ h => h.elim⟩
    have hr : Lib.replaceAll s [a] [b] = swp a b s := replace_swp hab s
    show RC w' Fz (.d (.str (swp a b s))) (.string ⟨(Lib.replaceAll s [a] [b]).toArray⟩) _
    rw [hr]
    exact .d _ _ _ (.str _) fun _ _ h => h
  | _ => exact h2.elim

theorem TrimSuffix_ok (s p : List UInt8) (hs : s.length ≤ 2000000) : Valid PP GG 126 [.d (.str s), .d (.str p)] (.d (.str (Lib.trimSuffix s p))) [none, none] := by
  refine lib_new [.str s, .str p] ⟨Tryd.f126, Tryd.func126, by kernel_rfl, by kernel_rfl⟩ fun w Fz args hG hFz hl hA => ?_
  have e := args_strs [s, p] hl hA
  subst e
  refine (Go.Proofs.YtpboimnecoakiaaDoor.Tryd.strings_TrimSuffix ⟨s.toArray⟩ ⟨p.toArray⟩ w (by show s.length ≤ _; omega)).mono ?_
  rintro e w' ⟨rfl, rfl⟩
  exact ⟨_, Fz, fun _ _ => False, rfl, ⟨rfl, rfl⟩, Nat.le_refl _, fun _ _ => rfl, fun _ _ h => h, fun b o h => ⟨.inl h, hFz b o h⟩, .d _ _ _ (.str _) fun _ _ h => h, fun _ _ h => h.elim⟩

theorem optional_ok (s : List UInt8) : Valid PP GG F_I_optional [.d (.str s)] (.d (.str (optW s))) [none] := by
  refine v_I_optional [.d (.str (optW s))] rfl rfl ?_
  by_cases h : s = []
  · subst h
    repeat' (first | refine W_seq ?_ | refine W_skip ?_ | refine W_block ?_ | (refine W_exit ?_; first | refine pick_pos rfl ?_ | (refine pick_neg rfl ?_; first | refine pick_pos rfl ?_ | (refine pick_neg rfl ?_; refine pick_pos rfl ?_))) | (refine W_regP fun K hK => ?_; simp [optW]) | (refine W_regPD fun K hK => ?_; simp [optW]) | (with_reducible refine hK _ ?_; clear hK K) | (with_reducible refine goL_split (fun h => ?_) (fun h => ?_) <;> first | (exfalso; simp at h; done) | (exfalso; simp at h; omega) | (exfalso; simp at h; contradiction) | ((try simp at h); simp [optW])) | with_reducible refine And.intro ?_ ?_ | with_reducible exact okay_rfl rfl | with_reducible assumption | (refine W_cond rfl (fun h => ?_) (fun h => ?_) <;> first | (exfalso; simp at h; done) | (exfalso; simp at h; omega) | (exfalso; simp at h; contradiction) | (exfalso; simp_all; done) | (try simp at h)) | (refine W_ret ?_; simp [Fin, optW]) | omega)
  · have hb : (s == []) = false := by simpa using h
    have : optW s = s := if_neg h
    rw [this]
    repeat' (first | refine W_seq ?_ | refine W_skip ?_ | refine W_block ?_ | (refine W_exit ?_; first | refine pick_pos rfl ?_ | (refine pick_neg rfl ?_; first | refine pick_pos rfl ?_ | (refine pick_neg rfl ?_; refine pick_pos rfl ?_))) | (refine W_regP fun K hK => ?_; simp [hb]) | (refine W_regPD fun K hK => ?_; simp [hb]) | (with_reducible refine hK _ ?_; clear hK K) | (with_reducible refine goL_split (fun h => ?_) (fun h => ?_) <;> first | (exfalso; simp at h; done) | (exfalso; simp at h; omega) | (exfalso; simp at h; contradiction) | ((try simp at h); simp [hb])) | with_reducible refine And.intro ?_ ?_ | with_reducible exact okay_rfl rfl | with_reducible assumption | (refine W_cond rfl (fun h => ?_) (fun h => ?_) <;> first | (exfalso; simp at h; done) | (exfalso; simp at h; omega) | (exfalso; simp at h; contradiction) | (exfalso; simp_all; done) | (try simp at h)) | (refine W_ret ?_; simp [Fin, hb]) | omega)

theorem s_l19Opt_ok (s : List UInt8) : Valid PP GG F_S_l19Opt [.d (.str s)] (.d (.str (optW s))) [none] := by
  refine v_S_l19Opt [.d (.str (optW s))] rfl rfl ?_
  by_cases h : s = []
  · subst h
    repeat' (first | refine W_seq ?_ | refine W_skip ?_ | refine W_block ?_ | (refine W_exit ?_; first | refine pick_pos rfl ?_ | (refine pick_neg rfl ?_; first | refine pick_pos rfl ?_ | (refine pick_neg rfl ?_; refine pick_pos rfl ?_))) | (refine W_regP fun K hK => ?_; simp [optW]) | (refine W_regPD fun K hK => ?_; simp [optW]) | (with_reducible refine hK _ ?_; clear hK K) | (with_reducible refine goL_split (fun h => ?_) (fun h => ?_) <;> first | (exfalso; simp at h; done) | (exfalso; simp at h; omega) | (exfalso; simp at h; contradiction) | ((try simp at h); simp [optW])) | with_reducible refine And.intro ?_ ?_ | with_reducible exact okay_rfl rfl | with_reducible assumption | (refine W_cond rfl (fun h => ?_) (fun h => ?_) <;> first | (exfalso; simp at h; done) | (exfalso; simp at h; omega) | (exfalso; simp at h; contradiction) | (exfalso; simp_all; done) | (try simp at h)) | (refine W_ret ?_; simp [Fin, optW]) | omega)
  · have hb : (s == []) = false := by simpa using h
    have : optW s = s := if_neg h
    rw [this]
    repeat' (first | refine W_seq ?_ | refine W_skip ?_ | refine W_block ?_ | (refine W_exit ?_; first | refine pick_pos rfl ?_ | (refine pick_neg rfl ?_; first | refine pick_pos rfl ?_ | (refine pick_neg rfl ?_; refine pick_pos rfl ?_))) | (refine W_regP fun K hK => ?_; simp [hb]) | (refine W_regPD fun K hK => ?_; simp [hb]) | (with_reducible refine hK _ ?_; clear hK K) | (with_reducible refine goL_split (fun h => ?_) (fun h => ?_) <;> first | (exfalso; simp at h; done) | (exfalso; simp at h; omega) | (exfalso; simp at h; contradiction) | ((try simp at h); simp [hb])) | with_reducible refine And.intro ?_ ?_ | with_reducible exact okay_rfl rfl | with_reducible assumption | (refine W_cond rfl (fun h => ?_) (fun h => ?_) <;> first | (exfalso; simp at h; done) | (exfalso; simp at h; omega) | (exfalso; simp at h; contradiction) | (exfalso; simp_all; done) | (try simp at h)) | (refine W_ret ?_; simp [Fin, hb]) | omega)

def unF : List (List UInt8) → List UInt8
  | [] => []
  | p :: r => swp 32 61 p ++ r.flatMap fun q => 59 :: swp 32 61 q

def unrul (d : List UInt8) : List UInt8 := if d = [] then [46] else unF (cutAt 10 d).dropLast

theorem unF_succ {l : List (List UInt8)} {i : Nat} {p : List UInt8} (h : l[i]? = some p) : unF (l.take (i + 1)) = unF (l.take i) ++ (if i = 0 then [] else [59]) ++ swp 32 61 p := by
  cases l with
  | nil => simp at h
  | cons q r =>
    cases i with
    | zero => simp at h; subst h; simp [unF]
    | succ j =>
      simp only [List.getElem?_cons_succ] at h
      simp only [List.take_succ_cons, unF]
      rw [List.take_add_one, h]
      simp [List.flatMap_append]

theorem unF_len {m : Nat} : ∀ (l : List (List UInt8)), (∀ p, p ∈ l → p.length ≤ m) → (unF l).length ≤ l.length * (m + 1) := by
  intro l h
  cases l with
  | nil => simp [unF]
  | cons p r =>
    simp only [unF, List.length_append, swp_len, List.length_cons]
    have h1 := h p (by simp)
    have h2 : (r.flatMap fun q => 59 :: swp 32 61 q).length ≤ r.length * (m + 1) := by
      have hr : ∀ q, q ∈ r → q.length ≤ m := fun q hq => h q (by simp [hq])
      clear h h1
      induction r with
      | nil => simp
      | cons q r ih =>
        simp only [List.flatMap_cons, List.length_append, List.length_cons, swp_len]
        have := hr q (by simp)
        have := ih fun x hx => hr x (by simp [hx])
        rw [Nat.add_mul]; omega
    rw [Nat.add_mul]; omega

theorem swp_take {p : List UInt8} {k : Nat} {x : UInt8} (h : p[k]? = some x) : swp 32 61 (p.take (k + 1)) = swp 32 61 (p.take k) ++ [if x = 32 then 61 else x] := by
  rw [List.take_add_one, h]; simp [swp]

theorem s_l19Unrules_ok (s : List UInt8) (hs : s.length ≤ 1048576) : Valid PP GG F_S_l19Unrules [.d (.str s)] (.d (.str (unrul s))) [none] := by
  refine v_S_l19Unrules [.d (.str (unrul s))] rfl rfl ?_
  by_cases h0 : s = []
  · subst h0
    repeat' (first | refine W_seq ?_ | refine W_skip ?_ | refine W_block ?_ | (refine W_exit ?_; first | refine pick_pos rfl ?_ | (refine pick_neg rfl ?_; first | refine pick_pos rfl ?_ | (refine pick_neg rfl ?_; refine pick_pos rfl ?_))) | (refine W_regP fun K hK => ?_; simp [unrul]) | (refine W_regPD fun K hK => ?_; simp [unrul]) | (with_reducible refine hK _ ?_; clear hK K) | (with_reducible refine goL_split (fun h => ?_) (fun h => ?_) <;> first | (exfalso; simp at h; done) | (exfalso; simp at h; omega) | (exfalso; simp at h; contradiction) | ((try simp at h); simp [unrul])) | with_reducible refine And.intro ?_ ?_ | with_reducible exact okay_rfl rfl | with_reducible assumption | (refine W_cond rfl (fun h => ?_) (fun h => ?_) <;> first | (exfalso; simp at h; done) | (exfalso; simp at h; omega) | (exfalso; simp at h; contradiction) | (exfalso; simp_all; done) | (try simp at h)) | (refine W_ret ?_; simp [Fin, unrul]) | omega)
  have hb0 : (s == []) = false := by simpa using h0
  have hu : unrul s = unF (cutAt 10 s).dropLast := if_neg h0
  rw [hu]
  have cs := l01Parts_ok (GG := GG) s 10 (by omega)
  change Valid PP GG F_S_l01Parts [.d (.str s), .d (.int .u8 10)] _ _ at cs
  have hcl := cutAt_len 10 s
  have hcm : ∀ p, p ∈ cutAt 10 s → p.length ≤ s.length := fun p => cutAt_mem s
  obtain ⟨p0, ps0, hps⟩ := cutAt_ne 10 s
  have hlp : 1 ≤ (cutAt 10 s).length := by rw [hps]; simp
  clear hps
  generalize cutAt 10 s = l at *
  have hdl : l.dropLast = l.take (l.length - 1) := List.dropLast_eq_take
  rw [hdl]
  have hind := ind_strs l
  repeat' (first | refine W_seq ?_ | refine W_skip ?_ | refine W_block ?_ | (refine W_exit ?_; first | refine pick_pos rfl ?_ | (refine pick_neg rfl ?_; first | refine pick_pos rfl ?_ | (refine pick_neg rfl ?_; refine pick_pos rfl ?_))) | (refine W_regP fun K hK => ?_; simp [hb0]) | (refine W_regPD fun K hK => ?_; simp [hb0]) | (with_reducible refine hK _ ?_; clear hK K) | (with_reducible refine callQ (cs) ?_; simp [hb0]) | (with_reducible refine goL_split (fun h => ?_) (fun h => ?_) <;> first | (exfalso; simp at h; done) | (exfalso; simp at h; omega) | (exfalso; simp at h; contradiction) | ((try simp at h); simp [hb0])) | with_reducible refine And.intro ?_ ?_ | with_reducible exact okay_rfl rfl | with_reducible assumption | (refine W_cond rfl (fun h => ?_) (fun h => ?_) <;> first | (exfalso; simp at h; done) | (exfalso; simp at h; omega) | (exfalso; simp at h; contradiction) | (exfalso; simp_all; done) | (try simp at h)) | (refine W_ret ?_; simp [Fin, hb0]) | omega)
  refine W_loop (fun n st => ∃ (i : Nat), n = (l.length - 1) - i ∧ i ≤ l.length - 1 ∧ st = ⟨[], [(3, .sl 0), (4, .sl 1), (5, .d (.int .i64 i))], [(0, .arr 0 0 1 (strsD l)), (1, .arr 0 0 1 (bytesD (unF (l.take i))))], 2⟩) _ ⟨0, rfl, by omega, rfl⟩ ?_
  rintro n st ⟨i, rfl, hi, rfl⟩
  have hw1 : IntKind.i64.wrap ((l.length : Int) - 1) = ((l.length - 1 : Nat) : Int) := by rw [wrap_id (by omega) (by omega)]; omega
  by_cases hlt : i < l.length - 1
  · have ha := List.getElem?_eq_getElem (show i < l.length by omega)
    generalize l[i]'_ = p at ha
    have hpl := hcm p (List.mem_of_getElem? ha)
    have hsn := unF_succ ha
    have hdl := unF_len (m := s.length) (l.take i) fun q hq => hcm q (List.mem_of_mem_take hq)
    have hdl2 : (l.take i).length * (s.length + 1) ≤ 1048577 * 1048577 := Nat.mul_le_mul (by rw [List.length_take]; omega) (by omega)
    have hli : (decide ((i : Int) < ((l.length - 1 : Nat) : Int))) = true := decide_eq_true (by omega)
    refine W_cut [3, 4, 5] (fun st => st = ⟨[], [(3, .sl 0), (4, .sl 1), (5, .d (.int .i64 i))], [(0, .arr 0 0 1 (strsD l)), (1, .arr 0 0 1 (bytesD (unF (l.take i))))], 2⟩) ?_ ?_
    · repeat' (first | refine W_seq ?_ | refine W_skip ?_ | refine W_block ?_ | (refine W_exit ?_; first | refine pick_pos rfl ?_ | (refine pick_neg rfl ?_; first | refine pick_pos rfl ?_ | (refine pick_neg rfl ?_; refine pick_pos rfl ?_))) | (refine W_regP fun K hK => ?_; simp [hw1, hli]) | (refine W_regPD fun K hK => ?_; simp [hw1, hli]) | (with_reducible refine hK _ ?_; clear hK K) | (with_reducible refine goL_split (fun h => ?_) (fun h => ?_) <;> first | (exfalso; simp at h; done) | (exfalso; simp at h; omega) | (exfalso; simp at h; contradiction) | ((try simp at h); simp [hw1, hli])) | with_reducible refine And.intro ?_ ?_ | with_reducible exact okay_rfl rfl | with_reducible assumption | (refine W_cond rfl (fun h => ?_) (fun h => ?_) <;> first | (exfalso; simp at h; done) | (exfalso; simp at h; omega) | (exfalso; simp at h; contradiction) | (exfalso; simp_all; done) | (try simp at h)) | (refine W_ret ?_; simp [Fin, hw1, hli]) | omega)
      simp [gc, closeN, liveA, gcV, gcO, renA, renAs, renO, namesAs, namesA, namesO, posn]
    rintro st rfl
    refine W_seq (?_)
    refine W_block ?_
    refine W_cut [3, 4, 5] (fun st => st = ⟨[], [(3, .sl 0), (4, .sl 1), (5, .d (.int .i64 i))], [(0, .arr 0 0 1 (strsD l)), (1, .arr 0 0 1 (bytesD (unF (l.take i) ++ if i = 0 then [] else [59])))], 2⟩) ?_ ?_
    · by_cases hi0 : i = 0
      · subst hi0
        repeat' (first | refine W_seq ?_ | refine W_skip ?_ | refine W_block ?_ | (refine W_exit ?_; first | refine pick_pos rfl ?_ | (refine pick_neg rfl ?_; first | refine pick_pos rfl ?_ | (refine pick_neg rfl ?_; refine pick_pos rfl ?_))) | (refine W_regP fun K hK => ?_; simp) | (refine W_regPD fun K hK => ?_; simp) | (with_reducible refine hK _ ?_; clear hK K) | (with_reducible refine goL_split (fun h => ?_) (fun h => ?_) <;> first | (exfalso; simp at h; done) | (exfalso; simp at h; omega) | (exfalso; simp at h; contradiction) | ((try simp at h); simp)) | with_reducible refine And.intro ?_ ?_ | with_reducible exact okay_rfl rfl | with_reducible assumption | (refine W_cond rfl (fun h => ?_) (fun h => ?_) <;> first | (exfalso; simp at h; done) | (exfalso; simp at h; omega) | (exfalso; simp at h; contradiction) | (exfalso; simp_all; done) | (try simp at h)) | (refine W_ret ?_; simp [Fin]) | omega)
        simp [gc, closeN, liveA, gcV, gcO, renA, renAs, renO, namesAs, namesA, namesO, posn]
      · have hip : 0 < i := by omega
        repeat' (first | refine W_seq ?_ | refine W_skip ?_ | refine W_block ?_ | (refine W_exit ?_; first | refine pick_pos rfl ?_ | (refine pick_neg rfl ?_; first | refine pick_pos rfl ?_ | (refine pick_neg rfl ?_; refine pick_pos rfl ?_))) | (refine W_regP fun K hK => ?_; simp [limit, hip]) | (refine W_regPD fun K hK => ?_; simp [limit, hip]) | (with_reducible refine hK _ ?_; clear hK K) | (with_reducible refine goL_split (fun h => ?_) (fun h => ?_) <;> first | (exfalso; simp at h; done) | (exfalso; simp at h; omega) | (exfalso; simp at h; contradiction) | ((try simp at h); simp [limit, hip])) | with_reducible refine And.intro ?_ ?_ | with_reducible exact okay_rfl rfl | with_reducible assumption | (refine W_cond rfl (fun h => ?_) (fun h => ?_) <;> first | (exfalso; simp at h; done) | (exfalso; simp at h; omega) | (exfalso; simp at h; contradiction) | (exfalso; simp_all; done) | (try simp at h)) | (refine W_ret ?_; simp [Fin, limit, hip]) | omega)
        simp [gc, closeN, liveA, gcV, gcO, renA, renAs, renO, namesAs, namesA, namesO, posn, hi0, bytesD]
    rintro st rfl
    generalize hpre : (unF (l.take i) ++ if i = 0 then [] else [59]) = d at hsn ⊢
    have hdll : d.length ≤ 1099513724930 := by rw [← hpre, List.length_append]; split <;> simp <;> omega
    repeat' (first | refine W_seq ?_ | refine W_skip ?_ | refine W_block ?_ | (refine W_exit ?_; first | refine pick_pos rfl ?_ | (refine pick_neg rfl ?_; first | refine pick_pos rfl ?_ | (refine pick_neg rfl ?_; refine pick_pos rfl ?_))) | (refine W_regP fun K hK => ?_; simp) | (refine W_regPD fun K hK => ?_; simp) | (with_reducible refine hK _ ?_; clear hK K) | (with_reducible refine goL_split (fun h => ?_) (fun h => ?_) <;> first | (exfalso; simp at h; done) | (exfalso; simp at h; omega) | (exfalso; simp at h; contradiction) | ((try simp at h); simp)) | with_reducible refine And.intro ?_ ?_ | with_reducible exact okay_rfl rfl | with_reducible assumption | (refine W_cond rfl (fun h => ?_) (fun h => ?_) <;> first | (exfalso; simp at h; done) | (exfalso; simp at h; omega) | (exfalso; simp at h; contradiction) | (exfalso; simp_all; done) | (try simp at h)) | (refine W_ret ?_; simp [Fin]) | omega)
    refine W_loop (fun n st => ∃ (q : Nat), n = p.length - q ∧ q ≤ p.length ∧ st = ⟨[], [(3, .sl 0), (4, .sl 1), (5, .d (.int .i64 i)), (6, .d (.int .i64 q))], [(0, .arr 0 0 1 (strsD l)), (1, .arr 0 0 1 (bytesD (d ++ swp 32 61 (p.take q))))], 2⟩) _ ⟨0, rfl, by omega, by simp [swp]; rfl⟩ ?_
    rintro n st ⟨q, rfl, hq, rfl⟩
    by_cases hql : q < p.length
    · have hb := List.getElem?_eq_getElem hql
      generalize p[q] = y at hb
      have hst := swp_take hb
      by_cases hy : y = 32
      · subst hy
        rw [if_pos rfl] at hst
        repeat' (first | refine W_seq ?_ | refine W_skip ?_ | refine W_block ?_ | (refine W_exit ?_; first | refine pick_pos rfl ?_ | (refine pick_neg rfl ?_; first | refine pick_pos rfl ?_ | (refine pick_neg rfl ?_; refine pick_pos rfl ?_))) | (refine W_regP fun K hK => ?_; simp [ha, hb, limit, swp_len]) | (refine W_regPD fun K hK => ?_; simp [ha, hb, limit, swp_len]) | (with_reducible refine hK _ ?_; clear hK K) | (with_reducible refine goL_split (fun h => ?_) (fun h => ?_) <;> first | (exfalso; simp at h; done) | (exfalso; simp at h; omega) | (exfalso; simp at h; contradiction) | ((try simp at h); simp [ha, hb, limit, swp_len])) | with_reducible refine And.intro ?_ ?_ | with_reducible exact okay_rfl rfl | with_reducible assumption | (refine W_cond rfl (fun h => ?_) (fun h => ?_) <;> first | (exfalso; simp at h; done) | (exfalso; simp at h; omega) | (exfalso; simp at h; contradiction) | (exfalso; simp_all; done) | (try simp at h)) | (refine W_ret ?_; simp [Fin, ha, hb, limit, swp_len]) | omega)
        all_goals (refine ⟨p.length - (q + 1), by omega, q + 1, rfl, hql, ?_⟩; rw [hst])
        all_goals (simp [gc, closeN, liveA, gcV, gcO, renA, renAs, renO, namesAs, namesA, namesO, posn]; exact ⟨wrap_id (by omega) (by omega), by simp [bytesD]⟩)
      · rw [if_neg hy] at hst
        have hyn : ¬ y.toNat = 32 := u8_ne hy
        repeat' (first | refine W_seq ?_ | refine W_skip ?_ | refine W_block ?_ | (refine W_exit ?_; first | refine pick_pos rfl ?_ | (refine pick_neg rfl ?_; first | refine pick_pos rfl ?_ | (refine pick_neg rfl ?_; refine pick_pos rfl ?_))) | (refine W_regP fun K hK => ?_; simp [ha, hb, limit, swp_len]) | (refine W_regPD fun K hK => ?_; simp [ha, hb, limit, swp_len]) | (with_reducible refine hK _ ?_; clear hK K) | (with_reducible refine goL_split (fun h => ?_) (fun h => ?_) <;> first | (exfalso; simp at h; done) | (exfalso; simp at h; omega) | (exfalso; simp at h; contradiction) | ((try simp at h); simp [ha, hb, limit, swp_len])) | with_reducible refine And.intro ?_ ?_ | with_reducible exact okay_rfl rfl | with_reducible assumption | (refine W_cond rfl (fun h => ?_) (fun h => ?_) <;> first | (exfalso; simp at h; done) | (exfalso; simp at h; omega) | (exfalso; simp at h; contradiction) | (exfalso; simp_all; done) | (try simp at h)) | (refine W_ret ?_; simp [Fin, ha, hb, limit, swp_len]) | omega)
        all_goals (refine ⟨p.length - (q + 1), by omega, q + 1, rfl, hql, ?_⟩; rw [hst])
        all_goals (simp [gc, closeN, liveA, gcV, gcO, renA, renAs, renO, namesAs, namesA, namesO, posn]; exact ⟨wrap_id (by omega) (by omega), by simp [bytesD]⟩)
    · rw [List.take_of_length_le (by omega)]
      repeat' (first | refine W_seq ?_ | refine W_skip ?_ | refine W_block ?_ | (refine W_exit ?_; first | refine pick_pos rfl ?_ | (refine pick_neg rfl ?_; first | refine pick_pos rfl ?_ | (refine pick_neg rfl ?_; refine pick_pos rfl ?_))) | (refine W_regP fun K hK => ?_; simp [ha]) | (refine W_regPD fun K hK => ?_; simp [ha]) | (with_reducible refine hK _ ?_; clear hK K) | (with_reducible refine goL_split (fun h => ?_) (fun h => ?_) <;> first | (exfalso; simp at h; done) | (exfalso; simp at h; omega) | (exfalso; simp at h; contradiction) | ((try simp at h); simp [ha])) | with_reducible refine And.intro ?_ ?_ | with_reducible exact okay_rfl rfl | with_reducible assumption | (refine W_cond rfl (fun h => ?_) (fun h => ?_) <;> first | (exfalso; simp at h; done) | (exfalso; simp at h; omega) | (exfalso; simp at h; contradiction) | (exfalso; simp_all; done) | (try simp at h)) | (refine W_ret ?_; simp [Fin, ha]) | omega)
      refine ⟨l.length - 1 - (i + 1), by omega, i + 1, rfl, by omega, ?_⟩
      rw [hsn]
      simp [gc, closeN, liveA, gcV, gcO, renA, renAs, renO, namesAs, namesA, namesO, posn]
      exact wrap_id (by omega) (by omega)
  · have hie : i = l.length - 1 := by omega
    subst hie
    have hli : (decide (((l.length - 1 : Nat) : Int) < ((l.length - 1 : Nat) : Int))) = false := decide_eq_false (by omega)
    repeat' (first | refine W_seq ?_ | refine W_skip ?_ | refine W_block ?_ | (refine W_exit ?_; first | refine pick_pos rfl ?_ | (refine pick_neg rfl ?_; first | refine pick_pos rfl ?_ | (refine pick_neg rfl ?_; refine pick_pos rfl ?_))) | (refine W_regP fun K hK => ?_; simp [hw1, hli, strOf_bytesD]) | (refine W_regPD fun K hK => ?_; simp [hw1, hli, strOf_bytesD]) | (with_reducible refine hK _ ?_; clear hK K) | (with_reducible refine goL_split (fun h => ?_) (fun h => ?_) <;> first | (exfalso; simp at h; done) | (exfalso; simp at h; omega) | (exfalso; simp at h; contradiction) | ((try simp at h); simp [hw1, hli, strOf_bytesD])) | with_reducible refine And.intro ?_ ?_ | with_reducible exact okay_rfl rfl | with_reducible assumption | (refine W_cond rfl (fun h => ?_) (fun h => ?_) <;> first | (exfalso; simp at h; done) | (exfalso; simp at h; omega) | (exfalso; simp at h; contradiction) | (exfalso; simp_all; done) | (try simp at h)) | (refine W_ret ?_; simp [Fin, hw1, hli, strOf_bytesD]) | omega)

end Go.Proofs.YtpboimnecoakiaaDoor.Ab


namespace Go.Proofs
end Go.Proofs
set_option linter.unusedSimpArgs false
set_option linter.unusedVariables false
set_option maxRecDepth 100000
set_option maxHeartbeats 2000000
namespace Go.Proofs.YtpboimnecoakiaaDoor.Ab
open Go.Proofs
variable {GG : GV}

def wordI (k : Int) (c : UInt8) (r : GReq) : List UInt8 :=
  if c = 110 then Lib.itoa r.fNum else if c = 112 then r.fPath else if c = 109 then r.fName else if c = 113 then optW r.fPath
  else if k = 0 ∧ r.fData ≠ [] then swp 32 61 (swp 10 59 (Lib.trimSuffix r.fData [10])) else optW r.fData

def headF (f : Form) (r : GReq) : List UInt8 := if f.tok = true then Lib.itoa r.fToken ++ [32] ++ f.word else f.word

def lineF (f : Form) (r : GReq) (n : Nat) : List UInt8 := headF f r ++ (f.rest.take n).flatMap fun c => 32 :: wordI f.kind c r

def lineI (r : GReq) : List UInt8 := if (decide (0 ≤ r.fKind) && decide (r.fKind ≤ 15)) = true then (match formsL[r.fKind.toNat]? with | some f => lineF f r f.rest.length | none => []) else []

def reqM (r : GReq) : Prop := int64 r.fToken ∧ int64 r.fNum ∧ r.fName.length ≤ 1048576 ∧ r.fPath.length ≤ 1048576 ∧ r.fData.length ≤ 1048576

theorem optW_len (s : List UInt8) : (optW s).length ≤ s.length + 1 := by unfold optW; split <;> simp

theorem trimSuffix_len (s p : List UInt8) : (Lib.trimSuffix s p).length ≤ s.length := by
  unfold Lib.trimSuffix
  split
  · rw [List.length_take]; omega
  · exact Nat.le_refl _

theorem wordI_len {r : GReq} (hr : reqM r) (k : Int) (c : UInt8) : (wordI k c r).length ≤ 1048580 := by
  obtain ⟨h1, h2, h3, h4, h5⟩ := hr
  have l1 := Lib.itoa_length_le r.fNum h2.1 h2.2
  have l2 := optW_len r.fPath
  have l3 := optW_len r.fData
  have l4 := trimSuffix_len r.fData [10]
  unfold wordI
  repeat' split
  all_goals (try simp only [swp_len]) ; try omega

theorem lineF_succ {f : Form} {r : GReq} {i : Nat} {c : UInt8} (h : f.rest[i]? = some c) : lineF f r (i + 1) = lineF f r i ++ 32 :: wordI f.kind c r := by
  unfold lineF
  rw [List.take_add_one, h]
  simp [List.flatMap_append]

theorem headF_len {f : Form} {r : GReq} (hr : reqM r) (hf : f.word.length ≤ 20) : (headF f r).length ≤ 42 := by
  have l1 := Lib.itoa_length_le r.fToken hr.1.1 hr.1.2
  unfold headF
  split
  · simp; omega
  · omega

theorem lineF_len {f : Form} {r : GReq} (hr : reqM r) (hf : f.word.length ≤ 20) : ∀ i, (lineF f r i).length ≤ 42 + i * 1048581 := by
  have h0 := headF_len hr hf
  have key : ∀ l : List UInt8, (l.flatMap fun c => 32 :: wordI f.kind c r).length ≤ l.length * 1048581 := by
    intro l
    induction l with
    | nil => simp
    | cons c l ih =>
      have := wordI_len hr f.kind c
      simp only [List.flatMap_cons, List.length_append, List.length_cons]
      rw [Nat.add_mul]; omega
  intro i
  have h1 := key (f.rest.take i)
  have h2 : (f.rest.take i).length * 1048581 ≤ i * 1048581 := Nat.mul_le_mul_right _ (by rw [List.length_take]; omega)
  unfold lineF
  rw [List.length_append]
  omega

theorem forms_small2 : ∀ f, f ∈ formsL → f.rest.length ≤ 3 ∧ f.word.length ≤ 20 := by decide

theorem i_reqLine_ok [P10 GG] [MaxL GG] (r : GReq) (hr : reqM r) : Valid PP GG F_I_reqLine [.agg r.c] (.d (.str (lineI r))) [none] := by
  refine v_I_reqLine [.d (.str (lineI r))] rfl rfl ?_
  unfold lineI
  have ci := within_ok (GG := GG) r.fKind 0 15
  by_cases hk : (decide (0 ≤ r.fKind) && decide (r.fKind ≤ 15)) = true
  rotate_left
  · have hk : (decide (0 ≤ r.fKind) && decide (r.fKind ≤ 15)) = false := by simpa using hk
    rw [hk] at ci ⊢
    repeat' (first | refine W_seq ?_ | refine W_skip ?_ | refine W_block ?_ | (refine W_exit ?_; first | refine pick_pos rfl ?_ | (refine pick_neg rfl ?_; first | refine pick_pos rfl ?_ | (refine pick_neg rfl ?_; refine pick_pos rfl ?_))) | (refine W_regP fun K hK => ?_; simp) | (refine W_regPD fun K hK => ?_; simp) | (with_reducible refine hK _ ?_; clear hK K) | (with_reducible refine callQ (ci) ?_; simp) | (with_reducible refine goL_split (fun h => ?_) (fun h => ?_) <;> first | (exfalso; simp at h; done) | (exfalso; simp at h; omega) | (exfalso; simp at h; contradiction) | ((try simp at h); simp)) | with_reducible refine And.intro ?_ ?_ | with_reducible exact okay_rfl rfl | with_reducible assumption | (refine W_cond rfl (fun h => ?_) (fun h => ?_) <;> first | (exfalso; simp at h; done) | (exfalso; simp at h; omega) | (exfalso; simp at h; contradiction) | (exfalso; simp_all; done) | (try simp at h)) | (refine W_ret ?_; simp [Fin]) | omega)
  rw [hk] at ci ⊢
  simp only [Bool.and_eq_true, decide_eq_true_eq] at hk
  have hrr := hr
  obtain ⟨kd, tk, nm, pa, da, nu⟩ := r
  obtain ⟨hr1, hr2, hr3, hr4, hr5⟩ := hrr
  dsimp only at *
  obtain ⟨k, rfl⟩ : ∃ k : Nat, kd = k := ⟨kd.toNat, by omega⟩
  have cf := deskForms_ok (GG := GG)
  have hfl := forms_small.1
  have hfr := forms_small2
  have cto := Itoa_ok (GG := GG) tk hr1
  have cnu := Itoa_ok (GG := GG) nu hr2
  have cop := optional_ok (GG := GG) pa
  have cod := optional_ok (GG := GG) da
  have ctr := TrimSuffix_ok (GG := GG) da [10] (by omega)
  have htl := trimSuffix_len da [10]
  have cr1 := ReplaceAll_ok (GG := GG) (Lib.trimSuffix da [10]) 10 59 (by decide) (by omega)
  have cr2 := ReplaceAll_ok (GG := GG) (swp 10 59 (Lib.trimSuffix da [10])) 32 61 (by decide) (by rw [swp_len]; omega)
  generalize formsL = L at *
  have ha := List.getElem?_eq_getElem (show k < L.length by omega)
  generalize L[k] = f at ha
  have hfm := hfr f (List.mem_of_getElem? ha)
  have hdr := lineF_len (f := f) hr hfm.2
  have hsu := fun i c => @lineF_succ f ⟨k, tk, nm, pa, da, nu⟩ i c
  have hwl := fun c => wordI_len hr f.kind c
  have e0 : lineF f ⟨k, tk, nm, pa, da, nu⟩ 0 = headF f ⟨k, tk, nm, pa, da, nu⟩ := by simp [lineF]
  have eh : headF f ⟨k, tk, nm, pa, da, nu⟩ = if f.tok = true then Lib.itoa tk ++ [32] ++ f.word else f.word := rfl
  have hlt := headF_len hr hfm.2
  rw [eh] at hlt
  simp only [Int.toNat_natCast, ha]
  obtain ⟨fw, fk, ft, fr⟩ := f
  dsimp only at *
  generalize lineF ⟨fw, fk, ft, fr⟩ ⟨k, tk, nm, pa, da, nu⟩ = G at *
  rw [eh] at e0
  clear eh hfr
  refine W_seq (?_)
  apply W_regS
  · intro K hK
    simp
    repeat' (first | with_reducible exact hK | (with_reducible refine goL_split (fun _ => ?_) (fun _ => ?_) <;> simp) | with_reducible refine And.intro ?_ ?_ | with_reducible exact okay_rfl rfl | with_reducible assumption | omega)
  refine W_cut [1] (fun st => st = ⟨[], [(1, .ptr 0 0)], [(0, .box [.d (.int .i64 k), .d (.int .i64 tk), .d (.str nm), .d (.str pa), .d (.str da), .d (.int .i64 nu)])], 1⟩) ?_ ?_
  · repeat' (first | refine W_seq ?_ | refine W_skip ?_ | refine W_block ?_ | (refine W_exit ?_; first | refine pick_pos rfl ?_ | (refine pick_neg rfl ?_; first | refine pick_pos rfl ?_ | (refine pick_neg rfl ?_; refine pick_pos rfl ?_))) | (refine W_regP fun K hK => ?_; simp) | (refine W_regPD fun K hK => ?_; simp) | (with_reducible refine hK _ ?_; clear hK K) | (with_reducible refine callQ (ci) ?_; simp) | (with_reducible refine goL_split (fun h => ?_) (fun h => ?_) <;> first | (exfalso; simp at h; done) | (exfalso; simp at h; omega) | (exfalso; simp at h; contradiction) | ((try simp at h); simp)) | with_reducible refine And.intro ?_ ?_ | with_reducible exact okay_rfl rfl | with_reducible assumption | (refine W_cond rfl (fun h => ?_) (fun h => ?_) <;> first | (exfalso; simp at h; done) | (exfalso; simp at h; omega) | (exfalso; simp at h; contradiction) | (exfalso; simp_all; done) | (try simp at h)) | (refine W_ret ?_; simp [Fin]) | omega)
    simp [gc, closeN, liveA, gcV, gcO, renA, renAs, renO, namesAs, namesA, namesO, posn]
  rintro st rfl
  refine W_seq (?_)
  apply W_regD
  · intro K hK
    simp [ha, hfl]
    repeat' (first | with_reducible exact hK | (with_reducible refine callQ (cf) ?_; simp [ha, hfl]) | (with_reducible refine goL_split (fun _ => ?_) (fun _ => ?_) <;> simp [ha, hfl]) | with_reducible refine And.intro ?_ ?_ | with_reducible exact okay_rfl rfl | with_reducible assumption | omega)
  refine W_seq (?_)
  apply W_regS
  · intro K hK
    simp
    repeat' (first | with_reducible exact hK | (with_reducible refine goL_split (fun _ => ?_) (fun _ => ?_) <;> simp) | with_reducible refine And.intro ?_ ?_ | with_reducible exact okay_rfl rfl | with_reducible assumption | omega)
  refine W_cut [1, 3, 4] (fun st => st = ⟨[], [(1, .ptr 0 0), (3, .ptr 1 0), (4, .d (.str (G 0)))], [(0, .box [.d (.int .i64 k), .d (.int .i64 tk), .d (.str nm), .d (.str pa), .d (.str da), .d (.int .i64 nu)]), (1, .box [.d (.str fw), .d (.int .i64 fk), .d (.bool ft), .d (.str fr)])], 2⟩) ?_ ?_
  · cases ft
    · repeat' (first | refine W_seq ?_ | refine W_skip ?_ | refine W_block ?_ | (refine W_exit ?_; first | refine pick_pos rfl ?_ | (refine pick_neg rfl ?_; first | refine pick_pos rfl ?_ | (refine pick_neg rfl ?_; refine pick_pos rfl ?_))) | (refine W_regP fun K hK => ?_; simp) | (refine W_regPD fun K hK => ?_; simp) | (with_reducible refine hK _ ?_; clear hK K) | (with_reducible refine goL_split (fun h => ?_) (fun h => ?_) <;> first | (exfalso; simp at h; done) | (exfalso; simp at h; omega) | (exfalso; simp at h; contradiction) | ((try simp at h); simp)) | with_reducible refine And.intro ?_ ?_ | with_reducible exact okay_rfl rfl | with_reducible assumption | (refine W_cond rfl (fun h => ?_) (fun h => ?_) <;> first | (exfalso; simp at h; done) | (exfalso; simp at h; omega) | (exfalso; simp at h; contradiction) | (exfalso; simp_all; done) | (try simp at h)) | (refine W_ret ?_; simp [Fin]) | omega)
      simp [gc, closeN, liveA, gcV, gcO, renA, renAs, renO, namesAs, namesA, namesO, posn, e0]
    · simp at hlt
      repeat' (first | refine W_seq ?_ | refine W_skip ?_ | refine W_block ?_ | (refine W_exit ?_; first | refine pick_pos rfl ?_ | (refine pick_neg rfl ?_; first | refine pick_pos rfl ?_ | (refine pick_neg rfl ?_; refine pick_pos rfl ?_))) | (refine W_regP fun K hK => ?_; simp [maxStr]) | (refine W_regPD fun K hK => ?_; simp [maxStr]) | (with_reducible refine hK _ ?_; clear hK K) | (with_reducible refine callQ (cto) ?_; simp [maxStr]) | (with_reducible refine goL_split (fun h => ?_) (fun h => ?_) <;> first | (exfalso; simp at h; done) | (exfalso; simp at h; omega) | (exfalso; simp at h; contradiction) | ((try simp at h); simp [maxStr])) | with_reducible refine And.intro ?_ ?_ | with_reducible exact okay_rfl rfl | with_reducible assumption | (refine W_cond rfl (fun h => ?_) (fun h => ?_) <;> first | (exfalso; simp at h; done) | (exfalso; simp at h; omega) | (exfalso; simp at h; contradiction) | (exfalso; simp_all; done) | (try simp at h)) | (refine W_ret ?_; simp [Fin, maxStr]) | omega)
      simp [gc, closeN, liveA, gcV, gcO, renA, renAs, renO, namesAs, namesA, namesO, posn, e0]
  rintro st rfl
  have hfl3 := hfm.1
  refine W_cut [4] (fun st => st = ⟨[], [(4, .d (.str (G fr.length)))], [], 0⟩) ?_ ?_
  · repeat' (first | refine W_seq ?_ | refine W_skip ?_ | refine W_block ?_ | (refine W_exit ?_; first | refine pick_pos rfl ?_ | (refine pick_neg rfl ?_; first | refine pick_pos rfl ?_ | (refine pick_neg rfl ?_; refine pick_pos rfl ?_))) | (refine W_regP fun K hK => ?_; simp) | (refine W_regPD fun K hK => ?_; simp) | (with_reducible refine hK _ ?_; clear hK K) | (with_reducible refine goL_split (fun h => ?_) (fun h => ?_) <;> first | (exfalso; simp at h; done) | (exfalso; simp at h; omega) | (exfalso; simp at h; contradiction) | ((try simp at h); simp)) | with_reducible refine And.intro ?_ ?_ | with_reducible exact okay_rfl rfl | with_reducible assumption | (refine W_cond rfl (fun h => ?_) (fun h => ?_) <;> first | (exfalso; simp at h; done) | (exfalso; simp at h; omega) | (exfalso; simp at h; contradiction) | (exfalso; simp_all; done) | (try simp at h)) | (refine W_ret ?_; simp [Fin]) | omega)
    refine W_loop (fun n st => ∃ (i : Nat), n = fr.length - i ∧ i ≤ fr.length ∧ st = ⟨[], [(1, .ptr 0 0), (3, .ptr 1 0), (4, .d (.str (G i))), (28, .d (.int .i64 fr.length)), (29, .d (.int .i64 i))], [(0, .box [.d (.int .i64 k), .d (.int .i64 tk), .d (.str nm), .d (.str pa), .d (.str da), .d (.int .i64 nu)]), (1, .box [.d (.str fw), .d (.int .i64 fk), .d (.bool ft), .d (.str fr)])], 2⟩) _ ⟨0, rfl, by omega, rfl⟩ ?_
    rintro n st ⟨i, rfl, hi, rfl⟩
    by_cases hlt2 : i < fr.length
    · have hc := List.getElem?_eq_getElem hlt2
      generalize fr[i] = c at hc
      have hs := hsu i c hc
      have hw := hwl c
      have hdi := hdr i
      have hdi2 : (G i).length ≤ 4000000 := by omega
      have fin : ∀ w : List UInt8, wordI fk c ⟨k, tk, nm, pa, da, nu⟩ = w → G (i + 1) = G i ++ 32 :: w := fun w h => by rw [hs, h]
      unfold wordI at fin hw
      dsimp only at fin hw
      by_cases h1 : c = 110
      · subst h1
        have fin := fin _ rfl
        simp only [if_true] at fin hw
        repeat' (first | refine W_seq ?_ | refine W_skip ?_ | refine W_block ?_ | (refine W_exit ?_; first | refine pick_pos rfl ?_ | (refine pick_neg rfl ?_; first | refine pick_pos rfl ?_ | (refine pick_neg rfl ?_; refine pick_pos rfl ?_))) | (refine W_regP fun K hK => ?_; simp [hc, maxStr]) | (refine W_regPD fun K hK => ?_; simp [hc, maxStr]) | (with_reducible refine hK _ ?_; clear hK K) | (with_reducible refine callQ (cnu) ?_; simp [hc, maxStr]) | (with_reducible refine goL_split (fun h => ?_) (fun h => ?_) <;> first | (exfalso; simp at h; done) | (exfalso; simp at h; omega) | (exfalso; simp at h; contradiction) | ((try simp at h); simp [hc, maxStr])) | with_reducible refine And.intro ?_ ?_ | with_reducible exact okay_rfl rfl | with_reducible assumption | (refine W_cond rfl (fun h => ?_) (fun h => ?_) <;> first | (exfalso; simp at h; done) | (exfalso; simp at h; omega) | (exfalso; simp at h; contradiction) | (exfalso; simp_all; done) | (try simp at h)) | (refine W_ret ?_; simp [Fin, hc, maxStr]) | omega)
        refine ⟨fr.length - (i + 1), by omega, i + 1, rfl, hlt2, ?_⟩
        simp [gc, closeN, liveA, gcV, gcO, renA, renAs, renO, namesAs, namesA, namesO, posn, fin]
        exact wrap_id (by omega) (by omega)
      have n1 : ¬ c.toNat = 110 := u8_ne h1
      rw [if_neg h1] at fin hw
      by_cases h2 : c = 112
      · subst h2
        have fin := fin _ rfl
        simp only [if_true] at fin hw
        repeat' (first | refine W_seq ?_ | refine W_skip ?_ | refine W_block ?_ | (refine W_exit ?_; first | refine pick_pos rfl ?_ | (refine pick_neg rfl ?_; first | refine pick_pos rfl ?_ | (refine pick_neg rfl ?_; refine pick_pos rfl ?_))) | (refine W_regP fun K hK => ?_; simp [hc, maxStr]) | (refine W_regPD fun K hK => ?_; simp [hc, maxStr]) | (with_reducible refine hK _ ?_; clear hK K) | (with_reducible refine goL_split (fun h => ?_) (fun h => ?_) <;> first | (exfalso; simp at h; done) | (exfalso; simp at h; omega) | (exfalso; simp at h; contradiction) | ((try simp at h); simp [hc, maxStr])) | with_reducible refine And.intro ?_ ?_ | with_reducible exact okay_rfl rfl | with_reducible assumption | (refine W_cond rfl (fun h => ?_) (fun h => ?_) <;> first | (exfalso; simp at h; done) | (exfalso; simp at h; omega) | (exfalso; simp at h; contradiction) | (exfalso; simp_all; done) | (try simp at h)) | (refine W_ret ?_; simp [Fin, hc, maxStr]) | omega)
        refine ⟨fr.length - (i + 1), by omega, i + 1, rfl, hlt2, ?_⟩
        simp [gc, closeN, liveA, gcV, gcO, renA, renAs, renO, namesAs, namesA, namesO, posn, fin]
        exact wrap_id (by omega) (by omega)
      have n2 : ¬ c.toNat = 112 := u8_ne h2
      rw [if_neg h2] at fin hw
      by_cases h3 : c = 109
      · subst h3
        have fin := fin _ rfl
        simp only [if_true] at fin hw
        repeat' (first | refine W_seq ?_ | refine W_skip ?_ | refine W_block ?_ | (refine W_exit ?_; first | refine pick_pos rfl ?_ | (refine pick_neg rfl ?_; first | refine pick_pos rfl ?_ | (refine pick_neg rfl ?_; refine pick_pos rfl ?_))) | (refine W_regP fun K hK => ?_; simp [hc, maxStr]) | (refine W_regPD fun K hK => ?_; simp [hc, maxStr]) | (with_reducible refine hK _ ?_; clear hK K) | (with_reducible refine goL_split (fun h => ?_) (fun h => ?_) <;> first | (exfalso; simp at h; done) | (exfalso; simp at h; omega) | (exfalso; simp at h; contradiction) | ((try simp at h); simp [hc, maxStr])) | with_reducible refine And.intro ?_ ?_ | with_reducible exact okay_rfl rfl | with_reducible assumption | (refine W_cond rfl (fun h => ?_) (fun h => ?_) <;> first | (exfalso; simp at h; done) | (exfalso; simp at h; omega) | (exfalso; simp at h; contradiction) | (exfalso; simp_all; done) | (try simp at h)) | (refine W_ret ?_; simp [Fin, hc, maxStr]) | omega)
        refine ⟨fr.length - (i + 1), by omega, i + 1, rfl, hlt2, ?_⟩
        simp [gc, closeN, liveA, gcV, gcO, renA, renAs, renO, namesAs, namesA, namesO, posn, fin]
        exact wrap_id (by omega) (by omega)
      have n3 : ¬ c.toNat = 109 := u8_ne h3
      rw [if_neg h3] at fin hw
      by_cases h4 : c = 113
      · subst h4
        have fin := fin _ rfl
        simp only [if_true] at fin hw
        repeat' (first | refine W_seq ?_ | refine W_skip ?_ | refine W_block ?_ | (refine W_exit ?_; first | refine pick_pos rfl ?_ | (refine pick_neg rfl ?_; first | refine pick_pos rfl ?_ | (refine pick_neg rfl ?_; refine pick_pos rfl ?_))) | (refine W_regP fun K hK => ?_; simp [hc, maxStr]) | (refine W_regPD fun K hK => ?_; simp [hc, maxStr]) | (with_reducible refine hK _ ?_; clear hK K) | (with_reducible refine callQ (cop) ?_; simp [hc, maxStr]) | (with_reducible refine goL_split (fun h => ?_) (fun h => ?_) <;> first | (exfalso; simp at h; done) | (exfalso; simp at h; omega) | (exfalso; simp at h; contradiction) | ((try simp at h); simp [hc, maxStr])) | with_reducible refine And.intro ?_ ?_ | with_reducible exact okay_rfl rfl | with_reducible assumption | (refine W_cond rfl (fun h => ?_) (fun h => ?_) <;> first | (exfalso; simp at h; done) | (exfalso; simp at h; omega) | (exfalso; simp at h; contradiction) | (exfalso; simp_all; done) | (try simp at h)) | (refine W_ret ?_; simp [Fin, hc, maxStr]) | omega)
        refine ⟨fr.length - (i + 1), by omega, i + 1, rfl, hlt2, ?_⟩
        simp [gc, closeN, liveA, gcV, gcO, renA, renAs, renO, namesAs, namesA, namesO, posn, fin]
        exact wrap_id (by omega) (by omega)
      have n4 : ¬ c.toNat = 113 := u8_ne h4
      rw [if_neg h4] at fin hw
      by_cases h5 : fk = 0
      · subst h5
        by_cases h6 : da = []
        · have fin := fin _ rfl
          rw [if_neg (by simp [h6])] at fin hw
          have hd : (da != []) = false := by simp [h6]
          repeat' (first | refine W_seq ?_ | refine W_skip ?_ | refine W_block ?_ | (refine W_exit ?_; first | refine pick_pos rfl ?_ | (refine pick_neg rfl ?_; first | refine pick_pos rfl ?_ | (refine pick_neg rfl ?_; refine pick_pos rfl ?_))) | (refine W_regP fun K hK => ?_; simp [hc, maxStr, n1, n2, n3, n4, hd]) | (refine W_regPD fun K hK => ?_; simp [hc, maxStr, n1, n2, n3, n4, hd]) | (with_reducible refine hK _ ?_; clear hK K) | (with_reducible refine callQ (cod) ?_; simp [hc, maxStr, n1, n2, n3, n4, hd]) | (with_reducible refine goL_split (fun h => ?_) (fun h => ?_) <;> first | (exfalso; simp at h; done) | (exfalso; simp at h; omega) | (exfalso; simp at h; contradiction) | ((try simp at h); simp [hc, maxStr, n1, n2, n3, n4, hd])) | with_reducible refine And.intro ?_ ?_ | with_reducible exact okay_rfl rfl | with_reducible assumption | (refine W_cond rfl (fun h => ?_) (fun h => ?_) <;> first | (exfalso; simp at h; done) | (exfalso; simp at h; omega) | (exfalso; simp at h; contradiction) | (exfalso; simp_all; done) | (try simp at h)) | (refine W_ret ?_; simp [Fin, hc, maxStr, n1, n2, n3, n4, hd]) | omega)
          refine ⟨fr.length - (i + 1), by omega, i + 1, rfl, hlt2, ?_⟩
          simp [gc, closeN, liveA, gcV, gcO, renA, renAs, renO, namesAs, namesA, namesO, posn, fin]
          exact wrap_id (by omega) (by omega)
        · have fin := fin _ rfl
          rw [if_pos (by simp [h6])] at fin hw
          have hd : (da != []) = true := by simp [h6]
          repeat' (first | refine W_seq ?_ | refine W_skip ?_ | refine W_block ?_ | (refine W_exit ?_; first | refine pick_pos rfl ?_ | (refine pick_neg rfl ?_; first | refine pick_pos rfl ?_ | (refine pick_neg rfl ?_; refine pick_pos rfl ?_))) | (refine W_regP fun K hK => ?_; simp [hc, maxStr, n1, n2, n3, n4, hd]) | (refine W_regPD fun K hK => ?_; simp [hc, maxStr, n1, n2, n3, n4, hd]) | (with_reducible refine hK _ ?_; clear hK K) | (with_reducible refine callQ (cod) ?_; simp [hc, maxStr, n1, n2, n3, n4, hd]) | (with_reducible refine callQ (ctr) ?_; simp [hc, maxStr, n1, n2, n3, n4, hd]) | (with_reducible refine callQ (cr1) ?_; simp [hc, maxStr, n1, n2, n3, n4, hd]) | (with_reducible refine callQ (cr2) ?_; simp [hc, maxStr, n1, n2, n3, n4, hd]) | (with_reducible refine goL_split (fun h => ?_) (fun h => ?_) <;> first | (exfalso; simp at h; done) | (exfalso; simp at h; omega) | (exfalso; simp at h; contradiction) | ((try simp at h); simp [hc, maxStr, n1, n2, n3, n4, hd])) | with_reducible refine And.intro ?_ ?_ | with_reducible exact okay_rfl rfl | with_reducible assumption | (refine W_cond rfl (fun h => ?_) (fun h => ?_) <;> first | (exfalso; simp at h; done) | (exfalso; simp at h; omega) | (exfalso; simp at h; contradiction) | (exfalso; simp_all; done) | (try simp at h)) | (refine W_ret ?_; simp [Fin, hc, maxStr, n1, n2, n3, n4, hd]) | omega)
          refine ⟨fr.length - (i + 1), by omega, i + 1, rfl, hlt2, ?_⟩
          simp [gc, closeN, liveA, gcV, gcO, renA, renAs, renO, namesAs, namesA, namesO, posn, fin]
          exact wrap_id (by omega) (by omega)
      · have fin := fin _ rfl
        rw [if_neg (by simp [h5])] at fin hw
        have hd : decide (fk = 0) = false := by simp [h5]
        repeat' (first | refine W_seq ?_ | refine W_skip ?_ | refine W_block ?_ | (refine W_exit ?_; first | refine pick_pos rfl ?_ | (refine pick_neg rfl ?_; first | refine pick_pos rfl ?_ | (refine pick_neg rfl ?_; refine pick_pos rfl ?_))) | (refine W_regP fun K hK => ?_; simp [hc, maxStr, n1, n2, n3, n4, hd, h5]) | (refine W_regPD fun K hK => ?_; simp [hc, maxStr, n1, n2, n3, n4, hd, h5]) | (with_reducible refine hK _ ?_; clear hK K) | (with_reducible refine callQ (cod) ?_; simp [hc, maxStr, n1, n2, n3, n4, hd, h5]) | (with_reducible refine goL_split (fun h => ?_) (fun h => ?_) <;> first | (exfalso; simp at h; done) | (exfalso; simp at h; omega) | (exfalso; simp at h; contradiction) | ((try simp at h); simp [hc, maxStr, n1, n2, n3, n4, hd, h5])) | with_reducible refine And.intro ?_ ?_ | with_reducible exact okay_rfl rfl | with_reducible assumption | (refine W_cond rfl (fun h => ?_) (fun h => ?_) <;> first | (exfalso; simp at h; done) | (exfalso; simp at h; omega) | (exfalso; simp at h; contradiction) | (exfalso; simp_all; done) | (try simp at h)) | (refine W_ret ?_; simp [Fin, hc, maxStr, n1, n2, n3, n4, hd, h5]) | omega)
        refine ⟨fr.length - (i + 1), by omega, i + 1, rfl, hlt2, ?_⟩
        simp [gc, closeN, liveA, gcV, gcO, renA, renAs, renO, namesAs, namesA, namesO, posn, fin]
        exact wrap_id (by omega) (by omega)
    · have hie : i = fr.length := by omega
      subst hie
      repeat' (first | refine W_seq ?_ | refine W_skip ?_ | refine W_block ?_ | (refine W_exit ?_; first | refine pick_pos rfl ?_ | (refine pick_neg rfl ?_; first | refine pick_pos rfl ?_ | (refine pick_neg rfl ?_; refine pick_pos rfl ?_))) | (refine W_regP fun K hK => ?_; simp) | (refine W_regPD fun K hK => ?_; simp) | (with_reducible refine hK _ ?_; clear hK K) | (with_reducible refine goL_split (fun h => ?_) (fun h => ?_) <;> first | (exfalso; simp at h; done) | (exfalso; simp at h; omega) | (exfalso; simp at h; contradiction) | ((try simp at h); simp)) | with_reducible refine And.intro ?_ ?_ | with_reducible exact okay_rfl rfl | with_reducible assumption | (refine W_cond rfl (fun h => ?_) (fun h => ?_) <;> first | (exfalso; simp at h; done) | (exfalso; simp at h; omega) | (exfalso; simp at h; contradiction) | (exfalso; simp_all; done) | (try simp at h)) | (refine W_ret ?_; simp [Fin]) | omega)
      simp [gc, closeN, liveA, gcV, gcO, renA, renAs, renO, namesAs, namesA, namesO, posn]
  rintro st rfl
  repeat' (first | refine W_seq ?_ | refine W_skip ?_ | refine W_block ?_ | (refine W_exit ?_; first | refine pick_pos rfl ?_ | (refine pick_neg rfl ?_; first | refine pick_pos rfl ?_ | (refine pick_neg rfl ?_; refine pick_pos rfl ?_))) | (refine W_regP fun K hK => ?_; simp) | (refine W_regPD fun K hK => ?_; simp) | (with_reducible refine hK _ ?_; clear hK K) | (with_reducible refine goL_split (fun h => ?_) (fun h => ?_) <;> first | (exfalso; simp at h; done) | (exfalso; simp at h; omega) | (exfalso; simp at h; contradiction) | ((try simp at h); simp)) | with_reducible refine And.intro ?_ ?_ | with_reducible exact okay_rfl rfl | with_reducible assumption | (refine W_cond rfl (fun h => ?_) (fun h => ?_) <;> first | (exfalso; simp at h; done) | (exfalso; simp at h; omega) | (exfalso; simp at h; contradiction) | (exfalso; simp_all; done) | (try simp at h)) | (refine W_ret ?_; simp [Fin]) | omega)

end Go.Proofs.YtpboimnecoakiaaDoor.Ab

