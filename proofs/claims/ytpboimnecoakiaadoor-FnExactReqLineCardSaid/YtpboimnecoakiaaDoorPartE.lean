/-
  A part of a proof about the given program; what is proved is said where each theorem stands.
-/
import Derived.Test.YtpboimnecoakiaaDoorFrameA
import Derived.Test.YtpboimnecoakiaaDoorFrameB
import Derived.Test.YtpboimnecoakiaaDoorFrameC
import Derived.Test.YtpboimnecoakiaaDoorFrameD
import Derived.Test.YtpboimnecoakiaaDoorFrameE
import Derived.Test.YtpboimnecoakiaaDoorShelf
import Derived.Test.YtpboimnecoakiaaDoorCodesP
import Derived.Test.YtpboimnecoakiaaDoorPartA
import Derived.Test.YtpboimnecoakiaaDoorPartB
import Derived.Test.YtpboimnecoakiaaDoorPartC
import Derived.Test.YtpboimnecoakiaaDoorPartD
namespace Go.Proofs
end Go.Proofs
set_option linter.unusedSimpArgs false
set_option linter.unusedVariables false
set_option maxRecDepth 100000
set_option maxHeartbeats 2000000
namespace Go.Proofs.YtpboimnecoakiaaDoor.Ab
open Go.Proofs
variable {GG : GV}

def outL (p : Option GReq) (r : GReq) (l : List UInt8) : List UInt8 := if p = some r then l else []

theorem i_parse_any [P10 GG] [ESyn GG] [ERng GG] [MaxL GG] (line : List UInt8) (hline : line.length ≤ 4000000) : Valid PP GG F_I_parseReq [.d (.str line)] (.tup [.agg ((deskW line).getD zReq).o, .d (.bool (deskW line).isSome)]) [none] := by
  by_cases h : line.length ≤ 1048576
  · exact parseReq_ok line h
  have hn : deskW line = none := by unfold deskW; rw [if_pos (by omega)]
  rw [hn]
  refine v_I_parseReq [.agg zReq.o, .d (.bool false)] rfl rfl ?_
  have hl2 : decide (250 < (line.length : Int)) = true := decide_eq_true (by omega)
  repeat' (first | refine W_seq ?_ | refine W_skip ?_ | refine W_block ?_ | (refine W_exit ?_; first | refine pick_pos rfl ?_ | (refine pick_neg rfl ?_; first | refine pick_pos rfl ?_ | (refine pick_neg rfl ?_; refine pick_pos rfl ?_))) | (refine W_regP fun K hK => ?_; simp [hl2, zReq]) | (refine W_regPD fun K hK => ?_; simp [hl2, zReq]) | (with_reducible refine hK _ ?_; clear hK K) | (with_reducible refine goL_split (fun h => ?_) (fun h => ?_) <;> first | (exfalso; simp at h; done) | (exfalso; simp at h; omega) | (exfalso; simp at h; contradiction) | ((try simp at h); simp [hl2, zReq])) | with_reducible refine And.intro ?_ ?_ | with_reducible exact okay_rfl rfl | with_reducible assumption | (refine W_cond rfl (fun h => ?_) (fun h => ?_) <;> first | (exfalso; simp at h; done) | (exfalso; simp at h; omega) | (exfalso; simp at h; contradiction) | (exfalso; simp_all; done) | (try simp at h)) | (refine W_ret ?_; simp [Fin, hl2, zReq]) | omega)

theorem lineI_len (r : GReq) (hr : reqM r) : (lineI r).length ≤ 3200000 := by
  unfold lineI
  split
  · split
    · rename_i f hf
      have hm := forms_small2 f (List.mem_of_getElem? hf)
      have := lineF_len (f := f) hr hm.2 f.rest.length
      omega
    · simp
  · simp

theorem i_ReqLine_ok [P10 GG] [ESyn GG] [ERng GG] [MaxL GG] (r : GReq) (hr : reqM r) : Valid PP GG F_I_ReqLine [.agg r.c] (.tup [.d (.str (outL (deskW (lineI r)) r (lineI r))), .d (.bool (decide (deskW (lineI r) = some r)))]) [none] := by
  refine v_I_ReqLine [.d (.str (outL (deskW (lineI r)) r (lineI r))), .d (.bool (decide (deskW (lineI r) = some r)))] rfl rfl ?_
  have cl := i_reqLine_ok (GG := GG) r hr
  have hll := lineI_len r hr
  generalize lineI r = l at *
  have cp := i_parse_any (GG := GG) l (by omega)
  generalize deskW l = p at *
  cases p with
  | none =>
    have : outL none r l = [] := by simp [outL]
    rw [this]
    repeat' (first | refine W_seq ?_ | refine W_skip ?_ | refine W_block ?_ | (refine W_exit ?_; first | refine pick_pos rfl ?_ | (refine pick_neg rfl ?_; first | refine pick_pos rfl ?_ | (refine pick_neg rfl ?_; refine pick_pos rfl ?_))) | (refine W_regP fun K hK => ?_; simp [zReq]) | (refine W_regPD fun K hK => ?_; simp [zReq]) | (with_reducible refine hK _ ?_; clear hK K) | (with_reducible refine callQ (cl) ?_; simp [zReq]) | (with_reducible refine callQ (cp) ?_; simp [zReq]) | (with_reducible refine goL_split (fun h => ?_) (fun h => ?_) <;> first | (exfalso; simp at h; done) | (exfalso; simp at h; omega) | (exfalso; simp at h; contradiction) | ((try simp at h); simp [zReq])) | with_reducible refine And.intro ?_ ?_ | with_reducible exact okay_rfl rfl | with_reducible assumption | (refine W_cond rfl (fun h => ?_) (fun h => ?_) <;> first | (exfalso; simp at h; done) | (exfalso; simp at h; omega) | (exfalso; simp at h; contradiction) | (exfalso; simp_all; done) | (try simp at h)) | (refine W_ret ?_; simp [Fin, zReq]) | omega)
  | some q =>
    by_cases h : q = r
    · subst h
      have e : outL (some q) q l = l := by simp [outL]
      rw [e]
      repeat' (first | refine W_seq ?_ | refine W_skip ?_ | refine W_block ?_ | (refine W_exit ?_; first | refine pick_pos rfl ?_ | (refine pick_neg rfl ?_; first | refine pick_pos rfl ?_ | (refine pick_neg rfl ?_; refine pick_pos rfl ?_))) | (refine W_regP fun K hK => ?_; simp) | (refine W_regPD fun K hK => ?_; simp) | (with_reducible refine hK _ ?_; clear hK K) | (with_reducible refine callQ (cl) ?_; simp) | (with_reducible refine callQ (cp) ?_; simp) | (with_reducible refine goL_split (fun h => ?_) (fun h => ?_) <;> first | (exfalso; simp at h; done) | (exfalso; simp at h; omega) | (exfalso; simp at h; contradiction) | ((try simp at h); simp)) | with_reducible refine And.intro ?_ ?_ | with_reducible exact okay_rfl rfl | with_reducible assumption | (refine W_cond rfl (fun h => ?_) (fun h => ?_) <;> first | (exfalso; simp at h; done) | (exfalso; simp at h; omega) | (exfalso; simp at h; contradiction) | (exfalso; simp_all; done) | (try simp at h)) | (refine W_ret ?_; simp [Fin]) | omega)
    · have e : outL (some q) r l = [] := by simp [outL, h]
      rw [e]
      have e2 : decide (some q = some r) = false := by simp [h]
      rw [e2]
      have hx : (q.fKind = r.fKind → q.fToken = r.fToken → q.fName = r.fName → q.fPath = r.fPath → q.fData = r.fData → q.fNum = r.fNum → False) := fun a b c d e f => h (by cases q; cases r; simp_all)
      repeat' (first | refine W_seq ?_ | refine W_skip ?_ | refine W_block ?_ | (refine W_exit ?_; first | refine pick_pos rfl ?_ | (refine pick_neg rfl ?_; first | refine pick_pos rfl ?_ | (refine pick_neg rfl ?_; refine pick_pos rfl ?_))) | (refine W_regP fun K hK => ?_; simp) | (refine W_regPD fun K hK => ?_; simp) | (with_reducible refine hK _ ?_; clear hK K) | (with_reducible refine callQ (cl) ?_; simp) | (with_reducible refine callQ (cp) ?_; simp) | (with_reducible refine goL_split (fun h => ?_) (fun h => ?_) <;> first | (exfalso; simp at h; done) | (exfalso; simp at h; omega) | (exfalso; simp at h; contradiction) | ((try simp at h); simp)) | with_reducible refine And.intro ?_ ?_ | with_reducible exact okay_rfl rfl | with_reducible assumption | (refine W_cond rfl (fun h => ?_) (fun h => ?_) <;> first | (exfalso; simp at h; done) | (exfalso; simp at h; omega) | (exfalso; simp at h; contradiction) | (exfalso; simp_all; done) | (try simp at h)) | (refine W_ret ?_; simp [Fin]) | omega)
      all_goals (exfalso; simp at *; first | exact hx (by assumption) (by assumption) (by assumption) (by assumption) (by assumption) (by assumption) | simp_all)

end Go.Proofs.YtpboimnecoakiaaDoor.Ab


namespace Go.Proofs
end Go.Proofs
set_option linter.unusedSimpArgs false
set_option linter.unusedVariables false
set_option maxRecDepth 100000
set_option maxHeartbeats 2000000
namespace Go.Proofs.YtpboimnecoakiaaDoor.Ab
open Go.Proofs
variable {GG : GV}

def wordS (k : Int) (c : UInt8) (r : GReq) : List UInt8 :=
  if c = 110 then Lib.itoa r.fNum else if c = 119 then r.fName else if c = 112 then r.fPath else if c = 113 then optW r.fPath
  else if c = 111 then (if k = 0 then unrul r.fData else optW r.fData) else []

def verbF (v : List UInt8 × List UInt8) (r : GReq) (n : Nat) : List UInt8 := Lib.itoa r.fToken ++ [32] ++ v.1 ++ (v.2.take n).flatMap fun c => 32 :: wordS r.fKind c r

def lineS (r : GReq) : List UInt8 := if r.fKind = 14 then [115, 121, 110, 99]
  else if (decide (11 ≤ r.fKind) && decide (r.fKind ≤ 15)) = true then (match shortV[(r.fKind - 11).toNat]? with | some s => s ++ [32] ++ Lib.itoa r.fNum | none => [])
  else if (decide (0 ≤ r.fKind) && decide (r.fKind ≤ 10)) = true then (match verbsL[r.fKind.toNat]? with | some v => verbF v r v.2.length | none => []) else []

def fitS (r : GReq) : Prop := r.fName.length ≤ 100 ∧ r.fPath.length ≤ 100 ∧ r.fData.length ≤ 110
instance (r : GReq) : Decidable (fitS r) := by unfold fitS; infer_instance

def backS (r : GReq) : Option GReq := if fitS r then specW (lineS r) else none

theorem unrul_len {d : List UInt8} (h : d.length ≤ 110) : (unrul d).length ≤ 13000 := by
  unfold unrul
  split
  · simp
  · have h1 := unF_len (m := d.length) (cutAt 10 d).dropLast fun q hq => cutAt_mem d ((List.dropLast_sublist _).mem hq)
    have h2 := cutAt_len 10 d
    have h3 : (cutAt 10 d).dropLast.length * (d.length + 1) ≤ 111 * 111 := Nat.mul_le_mul (by rw [List.length_dropLast]; omega) (by omega)
    omega

theorem wordS_len {r : GReq} (hr : reqM r) (hf : fitS r) (k : Int) (c : UInt8) : (wordS k c r).length ≤ 13000 := by
  obtain ⟨h1, h2, h3, h4, h5⟩ := hr
  obtain ⟨f1, f2, f3⟩ := hf
  have l1 := Lib.itoa_length_le r.fNum h2.1 h2.2
  have l2 := optW_len r.fPath
  have l3 := optW_len r.fData
  have l4 := unrul_len f3
  unfold wordS
  repeat' split
  all_goals (first | omega | simp)

theorem verbF_succ {v : List UInt8 × List UInt8} {r : GReq} {i : Nat} {c : UInt8} (h : v.2[i]? = some c) : verbF v r (i + 1) = verbF v r i ++ 32 :: wordS r.fKind c r := by
  unfold verbF
  rw [List.take_add_one, h]
  simp [List.flatMap_append]

theorem verbF_len {v : List UInt8 × List UInt8} {r : GReq} (hr : reqM r) (hf : fitS r) (hv : v.1.length ≤ 20) : ∀ i, (verbF v r i).length ≤ 42 + i * 13001 := by
  have key : ∀ l : List UInt8, (l.flatMap fun c => 32 :: wordS r.fKind c r).length ≤ l.length * 13001 := by
    intro l
    induction l with
    | nil => simp
    | cons c l ih =>
      have := wordS_len hr hf r.fKind c
      simp only [List.flatMap_cons, List.length_append, List.length_cons]
      rw [Nat.add_mul]; omega
  intro i
  have l1 := Lib.itoa_length_le r.fToken hr.1.1 hr.1.2
  have h1 := key (v.2.take i)
  have h2 : (v.2.take i).length * 13001 ≤ i * 13001 := Nat.mul_le_mul_right _ (by rw [List.length_take]; omega)
  unfold verbF
  simp only [List.length_append, List.length_singleton]
  omega

theorem verbs_small : ∀ v, v ∈ verbsL → v.1.length ≤ 20 ∧ v.2.length ≤ 3 := by decide

theorem lineS_len (r : GReq) (hr : reqM r) (hf : fitS r) : (lineS r).length ≤ 40000 := by
  have l1 := Lib.itoa_length_le r.fNum hr.2.1.1 hr.2.1.2
  unfold lineS
  split
  · simp
  split
  · split
    · rename_i s hs
      have : ∀ s, s ∈ shortV → s.length ≤ 20 := by decide
      have := this s (List.mem_of_getElem? hs)
      simp only [List.length_append, List.length_singleton]; omega
    · simp
  split
  · split
    · rename_i v hv
      have hm := verbs_small v (List.mem_of_getElem? hv)
      have := verbF_len (v := v) hr hf hm.1 v.2.length
      omega
    · simp
  · simp

theorem s_ReqLine_ok (r : GReq) (hr : reqM r) : Valid PP GG F_S_ReqLine [.agg r.c] (.tup [.d (.str (outL (backS r) r (lineS r))), .d (.bool (decide (backS r = some r)))]) [none] := by
  refine v_S_ReqLine [.d (.str (outL (backS r) r (lineS r))), .d (.bool (decide (backS r = some r)))] rfl rfl ?_
  by_cases hf : fitS r
  rotate_left
  · have hb : backS r = none := if_neg hf
    have : outL none r (lineS r) = [] := by simp [outL]
    rw [hb, this]
    have hdn : decide (none = some r) = false := rfl
    rw [hdn]
    by_cases h1 : r.fName.length ≤ 100
    · have d1 : decide (100 < (r.fName.length : Int)) = false := decide_eq_false (by omega)
      by_cases h2 : r.fPath.length ≤ 100
      · have d2 : decide (100 < (r.fPath.length : Int)) = false := decide_eq_false (by omega)
        have d3 : decide (110 < (r.fData.length : Int)) = true := decide_eq_true (by unfold fitS at hf; omega)
        repeat' (first | refine W_seq ?_ | refine W_skip ?_ | refine W_block ?_ | (refine W_exit ?_; first | refine pick_pos rfl ?_ | (refine pick_neg rfl ?_; first | refine pick_pos rfl ?_ | (refine pick_neg rfl ?_; refine pick_pos rfl ?_))) | (refine W_regP fun K hK => ?_; simp [d1, d2, d3]) | (refine W_regPD fun K hK => ?_; simp [d1, d2, d3]) | (with_reducible refine hK _ ?_; clear hK K) | (with_reducible refine goL_split (fun h => ?_) (fun h => ?_) <;> first | (exfalso; simp at h; done) | (exfalso; simp at h; omega) | (exfalso; simp at h; contradiction) | ((try simp at h); simp [d1, d2, d3])) | with_reducible refine And.intro ?_ ?_ | with_reducible exact okay_rfl rfl | with_reducible assumption | (refine W_cond rfl (fun h => ?_) (fun h => ?_) <;> first | (exfalso; simp at h; done) | (exfalso; simp at h; omega) | (exfalso; simp at h; contradiction) | (exfalso; simp_all; done) | (try simp at h)) | (refine W_ret ?_; simp [Fin, d1, d2, d3]) | omega)
      · have d2 : decide (100 < (r.fPath.length : Int)) = true := decide_eq_true (by omega)
        repeat' (first | refine W_seq ?_ | refine W_skip ?_ | refine W_block ?_ | (refine W_exit ?_; first | refine pick_pos rfl ?_ | (refine pick_neg rfl ?_; first | refine pick_pos rfl ?_ | (refine pick_neg rfl ?_; refine pick_pos rfl ?_))) | (refine W_regP fun K hK => ?_; simp [d1, d2]) | (refine W_regPD fun K hK => ?_; simp [d1, d2]) | (with_reducible refine hK _ ?_; clear hK K) | (with_reducible refine goL_split (fun h => ?_) (fun h => ?_) <;> first | (exfalso; simp at h; done) | (exfalso; simp at h; omega) | (exfalso; simp at h; contradiction) | ((try simp at h); simp [d1, d2])) | with_reducible refine And.intro ?_ ?_ | with_reducible exact okay_rfl rfl | with_reducible assumption | (refine W_cond rfl (fun h => ?_) (fun h => ?_) <;> first | (exfalso; simp at h; done) | (exfalso; simp at h; omega) | (exfalso; simp at h; contradiction) | (exfalso; simp_all; done) | (try simp at h)) | (refine W_ret ?_; simp [Fin, d1, d2]) | omega)
    · have d1 : decide (100 < (r.fName.length : Int)) = true := decide_eq_true (by omega)
      repeat' (first | refine W_seq ?_ | refine W_skip ?_ | refine W_block ?_ | (refine W_exit ?_; first | refine pick_pos rfl ?_ | (refine pick_neg rfl ?_; first | refine pick_pos rfl ?_ | (refine pick_neg rfl ?_; refine pick_pos rfl ?_))) | (refine W_regP fun K hK => ?_; simp [d1]) | (refine W_regPD fun K hK => ?_; simp [d1]) | (with_reducible refine hK _ ?_; clear hK K) | (with_reducible refine goL_split (fun h => ?_) (fun h => ?_) <;> first | (exfalso; simp at h; done) | (exfalso; simp at h; omega) | (exfalso; simp at h; contradiction) | ((try simp at h); simp [d1])) | with_reducible refine And.intro ?_ ?_ | with_reducible exact okay_rfl rfl | with_reducible assumption | (refine W_cond rfl (fun h => ?_) (fun h => ?_) <;> first | (exfalso; simp at h; done) | (exfalso; simp at h; omega) | (exfalso; simp at h; contradiction) | (exfalso; simp_all; done) | (try simp at h)) | (refine W_ret ?_; simp [Fin, d1]) | omega)
  have hb : backS r = specW (lineS r) := if_pos hf
  rw [hb]
  have hll := lineS_len r hr hf
  have hL : lineS r = if r.fKind = 14 then [115, 121, 110, 99]
      else if (decide (11 ≤ r.fKind) && decide (r.fKind ≤ 15)) = true then (match shortV[(r.fKind - 11).toNat]? with | some s => s ++ [32] ++ Lib.itoa r.fNum | none => [])
      else if (decide (0 ≤ r.fKind) && decide (r.fKind ≤ 10)) = true then (match verbsL[r.fKind.toNat]? with | some v => verbF v r v.2.length | none => []) else [] := rfl
  clear hb
  generalize lineS r = l at *
  obtain ⟨h1, h2, h3⟩ := hf
  have d1 : decide (100 < (r.fName.length : Int)) = false := decide_eq_false (by omega)
  have d2 : decide (100 < (r.fPath.length : Int)) = false := decide_eq_false (by omega)
  have d3 : decide (110 < (r.fData.length : Int)) = false := decide_eq_false (by omega)
  have hf : fitS r := ⟨h1, h2, h3⟩
  refine W_seq (?_)
  apply W_regS
  · intro K hK
    simp
    repeat' (first | with_reducible exact hK | (with_reducible refine goL_split (fun _ => ?_) (fun _ => ?_) <;> simp) | with_reducible refine And.intro ?_ ?_ | with_reducible exact okay_rfl rfl | with_reducible assumption | omega)
  refine W_cut [1] (fun st => st = ⟨[], [(1, .ptr 0 0)], [(0, .box (r.row.map A.d))], 1⟩) ?_ ?_
  · repeat' (first | refine W_seq ?_ | refine W_skip ?_ | refine W_block ?_ | (refine W_exit ?_; first | refine pick_pos rfl ?_ | (refine pick_neg rfl ?_; first | refine pick_pos rfl ?_ | (refine pick_neg rfl ?_; refine pick_pos rfl ?_))) | (refine W_regP fun K hK => ?_; simp [d1, d2, d3]) | (refine W_regPD fun K hK => ?_; simp [d1, d2, d3]) | (with_reducible refine hK _ ?_; clear hK K) | (with_reducible refine goL_split (fun h => ?_) (fun h => ?_) <;> first | (exfalso; simp at h; done) | (exfalso; simp at h; omega) | (exfalso; simp at h; contradiction) | ((try simp at h); simp [d1, d2, d3])) | with_reducible refine And.intro ?_ ?_ | with_reducible exact okay_rfl rfl | with_reducible assumption | (refine W_cond rfl (fun h => ?_) (fun h => ?_) <;> first | (exfalso; simp at h; done) | (exfalso; simp at h; omega) | (exfalso; simp at h; contradiction) | (exfalso; simp_all; done) | (try simp at h)) | (refine W_ret ?_; simp [Fin, d1, d2, d3]) | omega)
    simp [gc, closeN, liveA, gcV, gcO, renA, renAs, renO, namesAs, namesA, namesO, posn]
  rintro st rfl
  refine W_seq (?_)
  apply W_regS
  · intro K hK
    simp
    repeat' (first | with_reducible exact hK | (with_reducible refine goL_split (fun _ => ?_) (fun _ => ?_) <;> simp) | with_reducible refine And.intro ?_ ?_ | with_reducible exact okay_rfl rfl | with_reducible assumption | omega)
  refine W_cut [1, 4] (fun st => st = ⟨[], [(1, .ptr 0 0), (4, .d (.str l))], [(0, .box (r.row.map A.d))], 1⟩) ?_ ?_
  · have c1 := l01In_ok (GG := GG) r.fKind 11 15
    have c0 := l01In_ok (GG := GG) r.fKind 0 10
    have cnu := l01Num_ok (GG := GG) r.fNum hr.2.1
    have cto := l01Num_ok (GG := GG) r.fToken hr.1
    have ln := Lib.itoa_length_le r.fNum hr.2.1.1 hr.2.1.2
    have lt := Lib.itoa_length_le r.fToken hr.1.1 hr.1.2
    by_cases h14 : r.fKind = 14
    · have hk : (r.fKind == 14) = true := by simp [h14]
      rw [if_pos h14] at hL
      repeat' (first | refine W_seq ?_ | refine W_skip ?_ | refine W_block ?_ | (refine W_exit ?_; first | refine pick_pos rfl ?_ | (refine pick_neg rfl ?_; first | refine pick_pos rfl ?_ | (refine pick_neg rfl ?_; refine pick_pos rfl ?_))) | (refine W_regP fun K hK => ?_; simp [hk]) | (refine W_regPD fun K hK => ?_; simp [hk]) | (with_reducible refine hK _ ?_; clear hK K) | (with_reducible refine goL_split (fun h => ?_) (fun h => ?_) <;> first | (exfalso; simp at h; done) | (exfalso; simp at h; omega) | (exfalso; simp at h; contradiction) | ((try simp at h); simp [hk])) | with_reducible refine And.intro ?_ ?_ | with_reducible exact okay_rfl rfl | with_reducible assumption | (refine W_cond rfl (fun h => ?_) (fun h => ?_) <;> first | (exfalso; simp at h; done) | (exfalso; simp at h; omega) | (exfalso; simp at h; contradiction) | (exfalso; simp_all; done) | (try simp at h)) | (refine W_ret ?_; simp [Fin, hk]) | omega)
      simp [gc, closeN, liveA, gcV, gcO, renA, renAs, renO, namesAs, namesA, namesO, posn, hL]
    rw [if_neg h14] at hL
    have hk : (r.fKind == 14) = false := by simp [h14]
    by_cases h11 : (decide (11 ≤ r.fKind) && decide (r.fKind ≤ 15)) = true
    · rw [if_pos h11] at hL
      rw [h11] at c1
      simp only [Bool.and_eq_true, decide_eq_true_eq] at h11
      obtain ⟨k, e⟩ : ∃ k : Nat, r.fKind = 11 + k := ⟨(r.fKind - 11).toNat, by omega⟩
      have hsub : IntKind.i64.wrap (r.fKind - 11) = (k : Int) := by rw [wrap_id (by omega) (by omega)]; omega
      have e2 : (r.fKind - 11).toNat = k := by omega
      rw [e2] at hL
      have hk5 : k = 0 ∨ k = 1 ∨ k = 2 ∨ k = 3 ∨ k = 4 := by omega
      rcases hk5 with rfl | rfl | rfl | rfl | rfl
      · simp only [shortV, List.getElem?_cons_succ, List.getElem?_cons_zero] at hL
        repeat' (first | refine W_seq ?_ | refine W_skip ?_ | refine W_block ?_ | (refine W_exit ?_; first | refine pick_pos rfl ?_ | (refine pick_neg rfl ?_; first | refine pick_pos rfl ?_ | (refine pick_neg rfl ?_; refine pick_pos rfl ?_))) | (refine W_regP fun K hK => ?_; simp [hk, hsub, maxStr]) | (refine W_regPD fun K hK => ?_; simp [hk, hsub, maxStr]) | (with_reducible refine hK _ ?_; clear hK K) | (with_reducible refine callQ (c1) ?_; simp [hk, hsub, maxStr]) | (with_reducible refine callQ (cnu) ?_; simp [hk, hsub, maxStr]) | (with_reducible refine goL_split (fun h => ?_) (fun h => ?_) <;> first | (exfalso; simp at h; done) | (exfalso; simp at h; omega) | (exfalso; simp at h; contradiction) | ((try simp at h); simp [hk, hsub, maxStr])) | with_reducible refine And.intro ?_ ?_ | with_reducible exact okay_rfl rfl | with_reducible assumption | (refine W_cond rfl (fun h => ?_) (fun h => ?_) <;> first | (exfalso; simp at h; done) | (exfalso; simp at h; omega) | (exfalso; simp at h; contradiction) | (exfalso; simp_all; done) | (try simp at h)) | (refine W_ret ?_; simp [Fin, hk, hsub, maxStr]) | omega)
        all_goals (simp [gc, closeN, liveA, gcV, gcO, renA, renAs, renO, namesAs, namesA, namesO, posn, hL])
      · simp only [shortV, List.getElem?_cons_succ, List.getElem?_cons_zero] at hL
        repeat' (first | refine W_seq ?_ | refine W_skip ?_ | refine W_block ?_ | (refine W_exit ?_; first | refine pick_pos rfl ?_ | (refine pick_neg rfl ?_; first | refine pick_pos rfl ?_ | (refine pick_neg rfl ?_; refine pick_pos rfl ?_))) | (refine W_regP fun K hK => ?_; simp [hk, hsub, maxStr]) | (refine W_regPD fun K hK => ?_; simp [hk, hsub, maxStr]) | (with_reducible refine hK _ ?_; clear hK K) | (with_reducible refine callQ (c1) ?_; simp [hk, hsub, maxStr]) | (with_reducible refine callQ (cnu) ?_; simp [hk, hsub, maxStr]) | (with_reducible refine goL_split (fun h => ?_) (fun h => ?_) <;> first | (exfalso; simp at h; done) | (exfalso; simp at h; omega) | (exfalso; simp at h; contradiction) | ((try simp at h); simp [hk, hsub, maxStr])) | with_reducible refine And.intro ?_ ?_ | with_reducible exact okay_rfl rfl | with_reducible assumption | (refine W_cond rfl (fun h => ?_) (fun h => ?_) <;> first | (exfalso; simp at h; done) | (exfalso; simp at h; omega) | (exfalso; simp at h; contradiction) | (exfalso; simp_all; done) | (try simp at h)) | (refine W_ret ?_; simp [Fin, hk, hsub, maxStr]) | omega)
        all_goals (simp [gc, closeN, liveA, gcV, gcO, renA, renAs, renO, namesAs, namesA, namesO, posn, hL])
      · simp only [shortV, List.getElem?_cons_succ, List.getElem?_cons_zero] at hL
        repeat' (first | refine W_seq ?_ | refine W_skip ?_ | refine W_block ?_ | (refine W_exit ?_; first | refine pick_pos rfl ?_ | (refine pick_neg rfl ?_; first | refine pick_pos rfl ?_ | (refine pick_neg rfl ?_; refine pick_pos rfl ?_))) | (refine W_regP fun K hK => ?_; simp [hk, hsub, maxStr]) | (refine W_regPD fun K hK => ?_; simp [hk, hsub, maxStr]) | (with_reducible refine hK _ ?_; clear hK K) | (with_reducible refine callQ (c1) ?_; simp [hk, hsub, maxStr]) | (with_reducible refine callQ (cnu) ?_; simp [hk, hsub, maxStr]) | (with_reducible refine goL_split (fun h => ?_) (fun h => ?_) <;> first | (exfalso; simp at h; done) | (exfalso; simp at h; omega) | (exfalso; simp at h; contradiction) | ((try simp at h); simp [hk, hsub, maxStr])) | with_reducible refine And.intro ?_ ?_ | with_reducible exact okay_rfl rfl | with_reducible assumption | (refine W_cond rfl (fun h => ?_) (fun h => ?_) <;> first | (exfalso; simp at h; done) | (exfalso; simp at h; omega) | (exfalso; simp at h; contradiction) | (exfalso; simp_all; done) | (try simp at h)) | (refine W_ret ?_; simp [Fin, hk, hsub, maxStr]) | omega)
        all_goals (simp [gc, closeN, liveA, gcV, gcO, renA, renAs, renO, namesAs, namesA, namesO, posn, hL])
      · simp only [shortV, List.getElem?_cons_succ, List.getElem?_cons_zero] at hL
        repeat' (first | refine W_seq ?_ | refine W_skip ?_ | refine W_block ?_ | (refine W_exit ?_; first | refine pick_pos rfl ?_ | (refine pick_neg rfl ?_; first | refine pick_pos rfl ?_ | (refine pick_neg rfl ?_; refine pick_pos rfl ?_))) | (refine W_regP fun K hK => ?_; simp [hk, hsub, maxStr]) | (refine W_regPD fun K hK => ?_; simp [hk, hsub, maxStr]) | (with_reducible refine hK _ ?_; clear hK K) | (with_reducible refine callQ (c1) ?_; simp [hk, hsub, maxStr]) | (with_reducible refine callQ (cnu) ?_; simp [hk, hsub, maxStr]) | (with_reducible refine goL_split (fun h => ?_) (fun h => ?_) <;> first | (exfalso; simp at h; done) | (exfalso; simp at h; omega) | (exfalso; simp at h; contradiction) | ((try simp at h); simp [hk, hsub, maxStr])) | with_reducible refine And.intro ?_ ?_ | with_reducible exact okay_rfl rfl | with_reducible assumption | (refine W_cond rfl (fun h => ?_) (fun h => ?_) <;> first | (exfalso; simp at h; done) | (exfalso; simp at h; omega) | (exfalso; simp at h; contradiction) | (exfalso; simp_all; done) | (try simp at h)) | (refine W_ret ?_; simp [Fin, hk, hsub, maxStr]) | omega)
        all_goals (simp [gc, closeN, liveA, gcV, gcO, renA, renAs, renO, namesAs, namesA, namesO, posn, hL])
      · simp only [shortV, List.getElem?_cons_succ, List.getElem?_cons_zero] at hL
        repeat' (first | refine W_seq ?_ | refine W_skip ?_ | refine W_block ?_ | (refine W_exit ?_; first | refine pick_pos rfl ?_ | (refine pick_neg rfl ?_; first | refine pick_pos rfl ?_ | (refine pick_neg rfl ?_; refine pick_pos rfl ?_))) | (refine W_regP fun K hK => ?_; simp [hk, hsub, maxStr]) | (refine W_regPD fun K hK => ?_; simp [hk, hsub, maxStr]) | (with_reducible refine hK _ ?_; clear hK K) | (with_reducible refine callQ (c1) ?_; simp [hk, hsub, maxStr]) | (with_reducible refine callQ (cnu) ?_; simp [hk, hsub, maxStr]) | (with_reducible refine goL_split (fun h => ?_) (fun h => ?_) <;> first | (exfalso; simp at h; done) | (exfalso; simp at h; omega) | (exfalso; simp at h; contradiction) | ((try simp at h); simp [hk, hsub, maxStr])) | with_reducible refine And.intro ?_ ?_ | with_reducible exact okay_rfl rfl | with_reducible assumption | (refine W_cond rfl (fun h => ?_) (fun h => ?_) <;> first | (exfalso; simp at h; done) | (exfalso; simp at h; omega) | (exfalso; simp at h; contradiction) | (exfalso; simp_all; done) | (try simp at h)) | (refine W_ret ?_; simp [Fin, hk, hsub, maxStr]) | omega)
        all_goals (simp [gc, closeN, liveA, gcV, gcO, renA, renAs, renO, namesAs, namesA, namesO, posn, hL])
    have h11 : (decide (11 ≤ r.fKind) && decide (r.fKind ≤ 15)) = false := by simpa using h11
    rw [if_neg (by simp [h11])] at hL
    rw [h11] at c1
    by_cases h0 : (decide (0 ≤ r.fKind) && decide (r.fKind ≤ 10)) = true
    rotate_left
    · have h0 : (decide (0 ≤ r.fKind) && decide (r.fKind ≤ 10)) = false := by simpa using h0
      rw [if_neg (by simp [h0])] at hL
      rw [h0] at c0
      repeat' (first | refine W_seq ?_ | refine W_skip ?_ | refine W_block ?_ | (refine W_exit ?_; first | refine pick_pos rfl ?_ | (refine pick_neg rfl ?_; first | refine pick_pos rfl ?_ | (refine pick_neg rfl ?_; refine pick_pos rfl ?_))) | (refine W_regP fun K hK => ?_; simp [hk]) | (refine W_regPD fun K hK => ?_; simp [hk]) | (with_reducible refine hK _ ?_; clear hK K) | (with_reducible refine callQ (c1) ?_; simp [hk]) | (with_reducible refine callQ (c0) ?_; simp [hk]) | (with_reducible refine goL_split (fun h => ?_) (fun h => ?_) <;> first | (exfalso; simp at h; done) | (exfalso; simp at h; omega) | (exfalso; simp at h; contradiction) | ((try simp at h); simp [hk])) | with_reducible refine And.intro ?_ ?_ | with_reducible exact okay_rfl rfl | with_reducible assumption | (refine W_cond rfl (fun h => ?_) (fun h => ?_) <;> first | (exfalso; simp at h; done) | (exfalso; simp at h; omega) | (exfalso; simp at h; contradiction) | (exfalso; simp_all; done) | (try simp at h)) | (refine W_ret ?_; simp [Fin, hk]) | omega)
      simp [gc, closeN, liveA, gcV, gcO, renA, renAs, renO, namesAs, namesA, namesO, posn, hL]
    rw [if_pos h0] at hL
    rw [h0] at c0
    have cf := s_l19Forms_ok (GG := GG)
    have cpa := s_l19Opt_ok (GG := GG) r.fPath
    have cda := s_l19Opt_ok (GG := GG) r.fData
    have cun := s_l19Unrules_ok (GG := GG) r.fData (by omega)
    have lpa := optW_len r.fPath
    have lda := optW_len r.fData
    have lun := unrul_len h3
    obtain ⟨hF, hV, hFV⟩ := forms_verbs
    have hvs := verbs_small
    simp only [Bool.and_eq_true, decide_eq_true_eq] at h0
    obtain ⟨k, e⟩ : ∃ k : Nat, r.fKind = k := ⟨r.fKind.toNat, by omega⟩
    obtain ⟨f, ⟨v, g⟩, hfa, hva, hcut, hfl, hgl, hg0⟩ := hFV ⟨k, by omega⟩
    simp only at hfa hva hcut hgl hg0
    have hvl := (hvs _ (List.mem_of_getElem? hva)).1
    dsimp only at hvl
    have cv := s_l19Verb_ok (GG := GG) f v g hcut (by omega)
    have hindf := ind_strs formsS
    have e2 : r.fKind.toNat = k := by omega
    rw [e2, hva] at hL
    clear hFV hvs
    generalize formsS = Fm at *
    have hG := verbF_len (v := (v, g)) hr hf hvl
    have hsu := fun i c => @verbF_succ (v, g) r i c
    have e0 : verbF (v, g) r 0 = Lib.itoa r.fToken ++ [32] ++ v := by simp [verbF]
    have hwl := fun c => wordS_len hr hf r.fKind c
    dsimp only at *
    generalize verbF (v, g) r = G at *
    have eG : lineS r = lineS r := rfl
    clear eG
    rw [e] at hk h0 c0 c1 h14 h11
    have lto := Lib.itoa_length_le r.fToken hr.1.1 hr.1.2
    have hG0 := hG 0
    obtain ⟨kd, tk, nm, pa, da, nu⟩ := r
    dsimp only at *
    subst e
    repeat' (first | refine W_seq ?_ | refine W_skip ?_ | refine W_block ?_ | (refine W_exit ?_; first | refine pick_pos rfl ?_ | (refine pick_neg rfl ?_; first | refine pick_pos rfl ?_ | (refine pick_neg rfl ?_; refine pick_pos rfl ?_))) | (refine W_regP fun K hK => ?_; simp [hk, hfa, strsD, maxStr]) | (refine W_regPD fun K hK => ?_; simp [hk, hfa, strsD, maxStr]) | (with_reducible refine hK _ ?_; clear hK K) | (with_reducible refine callQ (c1) ?_; simp [hk, hfa, strsD, maxStr]) | (with_reducible refine callQ (c0) ?_; simp [hk, hfa, strsD, maxStr]) | (with_reducible refine callQ (cf) ?_; simp [hk, hfa, strsD, maxStr]) | (with_reducible refine callQ (cv) ?_; simp [hk, hfa, strsD, maxStr]) | (with_reducible refine callQ (cto) ?_; simp [hk, hfa, strsD, maxStr]) | (with_reducible refine goL_split (fun h => ?_) (fun h => ?_) <;> first | (exfalso; simp at h; done) | (exfalso; simp at h; omega) | (exfalso; simp at h; contradiction) | ((try simp at h); simp [hk, hfa, strsD, maxStr])) | with_reducible refine And.intro ?_ ?_ | with_reducible exact okay_rfl rfl | with_reducible assumption | (refine W_cond rfl (fun h => ?_) (fun h => ?_) <;> first | (exfalso; simp at h; done) | (exfalso; simp at h; omega) | (exfalso; simp at h; contradiction) | (exfalso; simp_all; done) | (try simp at h)) | (refine W_ret ?_; simp [Fin, hk, hfa, strsD, maxStr]) | omega)
    refine W_loop (fun n st => ∃ (i : Nat), n = g.length - i ∧ i ≤ g.length ∧ st = ⟨[], [(1, .ptr 0 0), (4, .d (.str (G i))), (7, .d (.str g)), (8, .d (.int .i64 i))], [(0, .box [.d (.int .i64 k), .d (.int .i64 tk), .d (.str nm), .d (.str pa), .d (.str da), .d (.int .i64 nu)])], 1⟩) _ ⟨0, rfl, by omega, ?_⟩ ?_
    · simp [gc, closeN, liveA, gcV, gcO, renA, renAs, renO, namesAs, namesA, namesO, posn, e0]
    rintro n st ⟨i, rfl, hi, rfl⟩
    by_cases hlt2 : i < g.length
    · have hc := List.getElem?_eq_getElem hlt2
      generalize g[i] = c at hc
      have hs := hsu i c hc
      have hw := hwl c
      have hdi := hG i
      have hdi2 : (G i).length ≤ 60000 := by omega
      have fin : ∀ w : List UInt8, wordS k c ⟨k, tk, nm, pa, da, nu⟩ = w → G (i + 1) = G i ++ 32 :: w := fun w h => by rw [hs, h]
      unfold wordS at fin hw
      dsimp only at fin hw
      by_cases q1 : c = 110
      · subst q1
        rw [if_pos rfl] at fin hw
        have fin := fin _ rfl
        repeat' (first | refine W_seq ?_ | refine W_skip ?_ | refine W_block ?_ | (refine W_exit ?_; first | refine pick_pos rfl ?_ | (refine pick_neg rfl ?_; first | refine pick_pos rfl ?_ | (refine pick_neg rfl ?_; refine pick_pos rfl ?_))) | (refine W_regP fun K hK => ?_; simp [hc, maxStr]) | (refine W_regPD fun K hK => ?_; simp [hc, maxStr]) | (with_reducible refine hK _ ?_; clear hK K) | (with_reducible refine callQ (cnu) ?_; simp [hc, maxStr]) | (with_reducible refine goL_split (fun h => ?_) (fun h => ?_) <;> first | (exfalso; simp at h; done) | (exfalso; simp at h; omega) | (exfalso; simp at h; contradiction) | ((try simp at h); simp [hc, maxStr])) | with_reducible refine And.intro ?_ ?_ | with_reducible exact okay_rfl rfl | with_reducible assumption | (refine W_cond rfl (fun h => ?_) (fun h => ?_) <;> first | (exfalso; simp at h; done) | (exfalso; simp at h; omega) | (exfalso; simp at h; contradiction) | (exfalso; simp_all; done) | (try simp at h)) | (refine W_ret ?_; simp [Fin, hc, maxStr]) | omega)
        refine ⟨g.length - (i + 1), by omega, i + 1, rfl, hlt2, ?_⟩
        simp [gc, closeN, liveA, gcV, gcO, renA, renAs, renO, namesAs, namesA, namesO, posn, fin]
        exact wrap_id (by omega) (by omega)
      have n1 : ¬ c.toNat = 110 := u8_ne q1
      rw [if_neg q1] at fin hw
      by_cases q2 : c = 119
      · subst q2
        rw [if_pos rfl] at fin hw
        have fin := fin _ rfl
        repeat' (first | refine W_seq ?_ | refine W_skip ?_ | refine W_block ?_ | (refine W_exit ?_; first | refine pick_pos rfl ?_ | (refine pick_neg rfl ?_; first | refine pick_pos rfl ?_ | (refine pick_neg rfl ?_; refine pick_pos rfl ?_))) | (refine W_regP fun K hK => ?_; simp [hc, maxStr]) | (refine W_regPD fun K hK => ?_; simp [hc, maxStr]) | (with_reducible refine hK _ ?_; clear hK K) | (with_reducible refine goL_split (fun h => ?_) (fun h => ?_) <;> first | (exfalso; simp at h; done) | (exfalso; simp at h; omega) | (exfalso; simp at h; contradiction) | ((try simp at h); simp [hc, maxStr])) | with_reducible refine And.intro ?_ ?_ | with_reducible exact okay_rfl rfl | with_reducible assumption | (refine W_cond rfl (fun h => ?_) (fun h => ?_) <;> first | (exfalso; simp at h; done) | (exfalso; simp at h; omega) | (exfalso; simp at h; contradiction) | (exfalso; simp_all; done) | (try simp at h)) | (refine W_ret ?_; simp [Fin, hc, maxStr]) | omega)
        refine ⟨g.length - (i + 1), by omega, i + 1, rfl, hlt2, ?_⟩
        simp [gc, closeN, liveA, gcV, gcO, renA, renAs, renO, namesAs, namesA, namesO, posn, fin]
        exact wrap_id (by omega) (by omega)
      have n2 : ¬ c.toNat = 119 := u8_ne q2
      rw [if_neg q2] at fin hw
      by_cases q3 : c = 112
      · subst q3
        rw [if_pos rfl] at fin hw
        have fin := fin _ rfl
        repeat' (first | refine W_seq ?_ | refine W_skip ?_ | refine W_block ?_ | (refine W_exit ?_; first | refine pick_pos rfl ?_ | (refine pick_neg rfl ?_; first | refine pick_pos rfl ?_ | (refine pick_neg rfl ?_; refine pick_pos rfl ?_))) | (refine W_regP fun K hK => ?_; simp [hc, maxStr]) | (refine W_regPD fun K hK => ?_; simp [hc, maxStr]) | (with_reducible refine hK _ ?_; clear hK K) | (with_reducible refine goL_split (fun h => ?_) (fun h => ?_) <;> first | (exfalso; simp at h; done) | (exfalso; simp at h; omega) | (exfalso; simp at h; contradiction) | ((try simp at h); simp [hc, maxStr])) | with_reducible refine And.intro ?_ ?_ | with_reducible exact okay_rfl rfl | with_reducible assumption | (refine W_cond rfl (fun h => ?_) (fun h => ?_) <;> first | (exfalso; simp at h; done) | (exfalso; simp at h; omega) | (exfalso; simp at h; contradiction) | (exfalso; simp_all; done) | (try simp at h)) | (refine W_ret ?_; simp [Fin, hc, maxStr]) | omega)
        refine ⟨g.length - (i + 1), by omega, i + 1, rfl, hlt2, ?_⟩
        simp [gc, closeN, liveA, gcV, gcO, renA, renAs, renO, namesAs, namesA, namesO, posn, fin]
        exact wrap_id (by omega) (by omega)
      have n3 : ¬ c.toNat = 112 := u8_ne q3
      rw [if_neg q3] at fin hw
      by_cases q4 : c = 113
      · subst q4
        rw [if_pos rfl] at fin hw
        have fin := fin _ rfl
        repeat' (first | refine W_seq ?_ | refine W_skip ?_ | refine W_block ?_ | (refine W_exit ?_; first | refine pick_pos rfl ?_ | (refine pick_neg rfl ?_; first | refine pick_pos rfl ?_ | (refine pick_neg rfl ?_; refine pick_pos rfl ?_))) | (refine W_regP fun K hK => ?_; simp [hc, maxStr]) | (refine W_regPD fun K hK => ?_; simp [hc, maxStr]) | (with_reducible refine hK _ ?_; clear hK K) | (with_reducible refine callQ (cpa) ?_; simp [hc, maxStr]) | (with_reducible refine goL_split (fun h => ?_) (fun h => ?_) <;> first | (exfalso; simp at h; done) | (exfalso; simp at h; omega) | (exfalso; simp at h; contradiction) | ((try simp at h); simp [hc, maxStr])) | with_reducible refine And.intro ?_ ?_ | with_reducible exact okay_rfl rfl | with_reducible assumption | (refine W_cond rfl (fun h => ?_) (fun h => ?_) <;> first | (exfalso; simp at h; done) | (exfalso; simp at h; omega) | (exfalso; simp at h; contradiction) | (exfalso; simp_all; done) | (try simp at h)) | (refine W_ret ?_; simp [Fin, hc, maxStr]) | omega)
        refine ⟨g.length - (i + 1), by omega, i + 1, rfl, hlt2, ?_⟩
        simp [gc, closeN, liveA, gcV, gcO, renA, renAs, renO, namesAs, namesA, namesO, posn, fin]
        exact wrap_id (by omega) (by omega)
      have n4 : ¬ c.toNat = 113 := u8_ne q4
      rw [if_neg q4] at fin hw
      by_cases q5 : c = 111
      · subst q5
        rw [if_pos rfl] at fin hw
        by_cases hk0 : k = 0
        · subst hk0
          have fin := fin _ rfl
          rw [if_pos (show ((0 : Nat) : Int) = 0 from rfl)] at fin hw
          repeat' (first | refine W_seq ?_ | refine W_skip ?_ | refine W_block ?_ | (refine W_exit ?_; first | refine pick_pos rfl ?_ | (refine pick_neg rfl ?_; first | refine pick_pos rfl ?_ | (refine pick_neg rfl ?_; refine pick_pos rfl ?_))) | (refine W_regP fun K hK => ?_; simp [hc, maxStr]) | (refine W_regPD fun K hK => ?_; simp [hc, maxStr]) | (with_reducible refine hK _ ?_; clear hK K) | (with_reducible refine callQ (cun) ?_; simp [hc, maxStr]) | (with_reducible refine goL_split (fun h => ?_) (fun h => ?_) <;> first | (exfalso; simp at h; done) | (exfalso; simp at h; omega) | (exfalso; simp at h; contradiction) | ((try simp at h); simp [hc, maxStr])) | with_reducible refine And.intro ?_ ?_ | with_reducible exact okay_rfl rfl | with_reducible assumption | (refine W_cond rfl (fun h => ?_) (fun h => ?_) <;> first | (exfalso; simp at h; done) | (exfalso; simp at h; omega) | (exfalso; simp at h; contradiction) | (exfalso; simp_all; done) | (try simp at h)) | (refine W_ret ?_; simp [Fin, hc, maxStr]) | omega)
          refine ⟨g.length - (i + 1), by omega, i + 1, rfl, hlt2, ?_⟩
          simp [gc, closeN, liveA, gcV, gcO, renA, renAs, renO, namesAs, namesA, namesO, posn, fin]
          exact wrap_id (by omega) (by omega)
        · have fin := fin _ rfl
          rw [if_neg (show ¬ ((k : Nat) : Int) = 0 by omega)] at fin hw
          repeat' (first | refine W_seq ?_ | refine W_skip ?_ | refine W_block ?_ | (refine W_exit ?_; first | refine pick_pos rfl ?_ | (refine pick_neg rfl ?_; first | refine pick_pos rfl ?_ | (refine pick_neg rfl ?_; refine pick_pos rfl ?_))) | (refine W_regP fun K hK => ?_; simp [hc, maxStr, hk0]) | (refine W_regPD fun K hK => ?_; simp [hc, maxStr, hk0]) | (with_reducible refine hK _ ?_; clear hK K) | (with_reducible refine callQ (cda) ?_; simp [hc, maxStr, hk0]) | (with_reducible refine goL_split (fun h => ?_) (fun h => ?_) <;> first | (exfalso; simp at h; done) | (exfalso; simp at h; omega) | (exfalso; simp at h; contradiction) | ((try simp at h); simp [hc, maxStr, hk0])) | with_reducible refine And.intro ?_ ?_ | with_reducible exact okay_rfl rfl | with_reducible assumption | (refine W_cond rfl (fun h => ?_) (fun h => ?_) <;> first | (exfalso; simp at h; done) | (exfalso; simp at h; omega) | (exfalso; simp at h; contradiction) | (exfalso; simp_all; done) | (try simp at h)) | (refine W_ret ?_; simp [Fin, hc, maxStr, hk0]) | omega)
          refine ⟨g.length - (i + 1), by omega, i + 1, rfl, hlt2, ?_⟩
          simp [gc, closeN, liveA, gcV, gcO, renA, renAs, renO, namesAs, namesA, namesO, posn, fin]
          exact wrap_id (by omega) (by omega)
      have n5 : ¬ c.toNat = 111 := u8_ne q5
      rw [if_neg q5] at fin hw
      have fin := fin _ rfl
      repeat' (first | refine W_seq ?_ | refine W_skip ?_ | refine W_block ?_ | (refine W_exit ?_; first | refine pick_pos rfl ?_ | (refine pick_neg rfl ?_; first | refine pick_pos rfl ?_ | (refine pick_neg rfl ?_; refine pick_pos rfl ?_))) | (refine W_regP fun K hK => ?_; simp [hc, maxStr]) | (refine W_regPD fun K hK => ?_; simp [hc, maxStr]) | (with_reducible refine hK _ ?_; clear hK K) | (with_reducible refine goL_split (fun h => ?_) (fun h => ?_) <;> first | (exfalso; simp at h; done) | (exfalso; simp at h; omega) | (exfalso; simp at h; contradiction) | ((try simp at h); simp [hc, maxStr])) | with_reducible refine And.intro ?_ ?_ | with_reducible exact okay_rfl rfl | with_reducible assumption | (refine W_cond rfl (fun h => ?_) (fun h => ?_) <;> first | (exfalso; simp at h; done) | (exfalso; simp at h; omega) | (exfalso; simp at h; contradiction) | (exfalso; simp_all; done) | (try simp at h)) | (refine W_ret ?_; simp [Fin, hc, maxStr]) | omega)
      refine ⟨g.length - (i + 1), by omega, i + 1, rfl, hlt2, ?_⟩
      simp [gc, closeN, liveA, gcV, gcO, renA, renAs, renO, namesAs, namesA, namesO, posn, fin]
      exact wrap_id (by omega) (by omega)
    · have hie : i = g.length := by omega
      subst hie
      repeat' (first | refine W_seq ?_ | refine W_skip ?_ | refine W_block ?_ | (refine W_exit ?_; first | refine pick_pos rfl ?_ | (refine pick_neg rfl ?_; first | refine pick_pos rfl ?_ | (refine pick_neg rfl ?_; refine pick_pos rfl ?_))) | (refine W_regP fun K hK => ?_; simp) | (refine W_regPD fun K hK => ?_; simp) | (with_reducible refine hK _ ?_; clear hK K) | (with_reducible refine goL_split (fun h => ?_) (fun h => ?_) <;> first | (exfalso; simp at h; done) | (exfalso; simp at h; omega) | (exfalso; simp at h; contradiction) | ((try simp at h); simp)) | with_reducible refine And.intro ?_ ?_ | with_reducible exact okay_rfl rfl | with_reducible assumption | (refine W_cond rfl (fun h => ?_) (fun h => ?_) <;> first | (exfalso; simp at h; done) | (exfalso; simp at h; omega) | (exfalso; simp at h; contradiction) | (exfalso; simp_all; done) | (try simp at h)) | (refine W_ret ?_; simp [Fin]) | omega)
      simp [gc, closeN, liveA, gcV, gcO, renA, renAs, renO, namesAs, namesA, namesO, posn, hL]
  rintro st rfl
  clear hL
  have cp := s_ParseReq_ok (GG := GG) l (by omega)
  generalize specW l = p at *
  cases p with
  | none =>
    have : outL none r l = [] := by simp [outL]
    rw [this]
    repeat' (first | refine W_seq ?_ | refine W_skip ?_ | refine W_block ?_ | (refine W_exit ?_; first | refine pick_pos rfl ?_ | (refine pick_neg rfl ?_; first | refine pick_pos rfl ?_ | (refine pick_neg rfl ?_; refine pick_pos rfl ?_))) | (refine W_regP fun K hK => ?_; simp [zReq]) | (refine W_regPD fun K hK => ?_; simp [zReq]) | (with_reducible refine hK _ ?_; clear hK K) | (with_reducible refine callQ (cp) ?_; simp [zReq]) | (with_reducible refine goL_split (fun h => ?_) (fun h => ?_) <;> first | (exfalso; simp at h; done) | (exfalso; simp at h; omega) | (exfalso; simp at h; contradiction) | ((try simp at h); simp [zReq])) | with_reducible refine And.intro ?_ ?_ | with_reducible exact okay_rfl rfl | with_reducible assumption | (refine W_cond rfl (fun h => ?_) (fun h => ?_) <;> first | (exfalso; simp at h; done) | (exfalso; simp at h; omega) | (exfalso; simp at h; contradiction) | (exfalso; simp_all; done) | (try simp at h)) | (refine W_ret ?_; simp [Fin, zReq]) | omega)
  | some q =>
    by_cases h : q = r
    · subst h
      have e : outL (some q) q l = l := by simp [outL]
      rw [e]
      repeat' (first | refine W_seq ?_ | refine W_skip ?_ | refine W_block ?_ | (refine W_exit ?_; first | refine pick_pos rfl ?_ | (refine pick_neg rfl ?_; first | refine pick_pos rfl ?_ | (refine pick_neg rfl ?_; refine pick_pos rfl ?_))) | (refine W_regP fun K hK => ?_; simp) | (refine W_regPD fun K hK => ?_; simp) | (with_reducible refine hK _ ?_; clear hK K) | (with_reducible refine callQ (cp) ?_; simp) | (with_reducible refine goL_split (fun h => ?_) (fun h => ?_) <;> first | (exfalso; simp at h; done) | (exfalso; simp at h; omega) | (exfalso; simp at h; contradiction) | ((try simp at h); simp)) | with_reducible refine And.intro ?_ ?_ | with_reducible exact okay_rfl rfl | with_reducible assumption | (refine W_cond rfl (fun h => ?_) (fun h => ?_) <;> first | (exfalso; simp at h; done) | (exfalso; simp at h; omega) | (exfalso; simp at h; contradiction) | (exfalso; simp_all; done) | (try simp at h)) | (refine W_ret ?_; simp [Fin]) | omega)
    · have e : outL (some q) r l = [] := by simp [outL, h]
      rw [e]
      have e2 : decide (some q = some r) = false := by simp [h]
      rw [e2]
      have hx : (q.fKind = r.fKind → q.fToken = r.fToken → q.fName = r.fName → q.fPath = r.fPath → q.fData = r.fData → q.fNum = r.fNum → False) := fun a b c d e f => h (by cases q; cases r; simp_all)
      repeat' (first | refine W_seq ?_ | refine W_skip ?_ | refine W_block ?_ | (refine W_exit ?_; first | refine pick_pos rfl ?_ | (refine pick_neg rfl ?_; first | refine pick_pos rfl ?_ | (refine pick_neg rfl ?_; refine pick_pos rfl ?_))) | (refine W_regP fun K hK => ?_; simp) | (refine W_regPD fun K hK => ?_; simp) | (with_reducible refine hK _ ?_; clear hK K) | (with_reducible refine callQ (cp) ?_; simp) | (with_reducible refine goL_split (fun h => ?_) (fun h => ?_) <;> first | (exfalso; simp at h; done) | (exfalso; simp at h; omega) | (exfalso; simp at h; contradiction) | ((try simp at h); simp)) | with_reducible refine And.intro ?_ ?_ | with_reducible exact okay_rfl rfl | with_reducible assumption | (refine W_cond rfl (fun h => ?_) (fun h => ?_) <;> first | (exfalso; simp at h; done) | (exfalso; simp at h; omega) | (exfalso; simp at h; contradiction) | (exfalso; simp_all; done) | (try simp at h)) | (refine W_ret ?_; simp [Fin]) | omega)
      all_goals (exfalso; simp at *; first | exact hx (by assumption) (by assumption) (by assumption) (by assumption) (by assumption) (by assumption) | simp_all)

end Go.Proofs.YtpboimnecoakiaaDoor.Ab

