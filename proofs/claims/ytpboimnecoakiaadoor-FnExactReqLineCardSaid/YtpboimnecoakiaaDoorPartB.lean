/-
  A part of a proof about the given program; what is proved is said where each theorem stands.
-/
import Derived.Test.YtpboimnecoakiaaDoorFrameA
import Derived.Test.YtpboimnecoakiaaDoorFrameB
import Derived.Test.YtpboimnecoakiaaDoorFrameC
import Derived.Test.YtpboimnecoakiaaDoorFrameD
import Derived.Test.YtpboimnecoakiaaDoorFrameE
import Derived.Test.YtpboimnecoakiaaDoorShelf
import Derived.Test.YtpboimnecoakiaaDoorCodesP
import Derived.Test.YtpboimnecoakiaaDoorPartA
namespace Go.Proofs
end Go.Proofs
set_option linter.unusedSimpArgs false
set_option linter.unusedVariables false
set_option maxRecDepth 100000
set_option maxHeartbeats 2000000
namespace Go.Proofs.YtpboimnecoakiaaDoor.Ab
open Go.Proofs
variable {GG : GV}

structure Form where
  word : List UInt8
  kind : Int
  tok : Bool
  rest : List UInt8
  deriving DecidableEq

def Form.row (f : Form) : List D := [.str f.word, .int .i64 f.kind, .bool f.tok, .str f.rest]

def formsL : List Form := [
  ⟨[112, 111, 108, 105, 99, 121], 0, true, [109, 100]⟩,
  ⟨[116, 111, 107, 101, 110], 1, true, [100, 110]⟩,
  ⟨[114, 101, 118, 111, 107, 101], 2, true, [110]⟩,
  ⟨[114, 101, 110, 101, 119], 3, true, [110]⟩,
  ⟨[112, 117, 116], 4, true, [112, 110, 100]⟩,
  ⟨[103, 101, 116], 5, true, [112, 110]⟩,
  ⟨[116, 97, 107, 101], 6, true, [112, 110]⟩,
  ⟨[108, 105, 115, 116], 7, true, [113]⟩,
  ⟨[114, 111, 108, 101], 8, true, [109, 100, 110]⟩,
  ⟨[99, 114, 101, 100, 115], 9, true, [109]⟩,
  ⟨[119, 114, 97, 112], 10, true, [112, 110]⟩,
  ⟨[111, 112, 101, 110], 11, false, [110]⟩,
  ⟨[116, 105, 109, 101], 12, false, [110]⟩,
  ⟨[102, 97, 114], 13, false, [110]⟩,
  ⟨[115, 121, 110, 99], 14, false, []⟩,
  ⟨[99, 114, 97, 115, 104], 15, false, [110]⟩]

def rForm (l : List Form) : List (List D) := l.map Form.row

@[simp] theorem rForm_len (l : List Form) : (rForm l).length = l.length := by simp [rForm]

@[simp] theorem rForm_get (l : List Form) (i : Nat) : (rForm l)[i]? = (l[i]?).map fun f => [.str f.word, .int .i64 f.kind, .bool f.tok, .str f.rest] := by simp [rForm]; rfl

def takeAll (k : Int) : GReq → List UInt8 → List (List UInt8) → Option GReq
  | r, c :: cs, w :: ws => match takeW k c r w with | some r' => takeAll k r' cs ws | none => none
  | r, _, _ => some r

def zReq : GReq := ⟨0, 0, [], [], [], 0⟩

def usOf (ws : List (List UInt8)) (t : Bool) : List (List UInt8) := if t = true then ws.drop 1 else ws

def matchF (us : List (List UInt8)) (t : Bool) (f : Form) : Bool := decide (us.length = f.rest.length + 1) && us.head? == some f.word && f.tok == t

def deskU (us : List (List UInt8)) (t : Option Int) : Option GReq := match formsL.find? (matchF us t.isSome) with
  | none => none
  | some f => takeAll f.kind ⟨f.kind, t.getD 0, [], [], [], 0⟩ f.rest (us.drop 1)

def deskW (line : List UInt8) : Option GReq := if 250 < line.length then none else
  let t := numW ((cutAt 32 line).headD [])
  deskU (usOf (cutAt 32 line) t.isSome) t

theorem find_hit2 {α : Type} {p : α → Bool} {l : List α} {i : Nat} {x : α} (ha : l[i]? = some x) (hn : ∀ y, y ∈ l.take i → p y = false) (hx : p x = true) : l.find? p = some x := by
  obtain ⟨h, e⟩ := List.getElem?_eq_some_iff.1 ha
  rw [List.find?_eq_some_iff_getElem]
  refine ⟨hx, i, h, e, fun j hj => ?_⟩
  have := hn l[j] (List.mem_take_iff_getElem.2 ⟨j, by omega, rfl⟩)
  simp [this]

theorem deskForms_ok : Valid PP GG F_I_deskForms [] (.own 0 4 (rForm formsL)) [] := by
  refine v_I_deskForms [.own 0 4 (rForm formsL)] rfl rfl ?_
  repeat' (first | refine W_seq ?_ | refine W_skip ?_ | refine W_block ?_ | (refine W_exit ?_; first | refine pick_pos rfl ?_ | (refine pick_neg rfl ?_; first | refine pick_pos rfl ?_ | (refine pick_neg rfl ?_; refine pick_pos rfl ?_))) | (refine W_regP fun K hK => ?_; simp [formsL, rForm, Form.row]) | (refine W_regPD fun K hK => ?_; simp [formsL, rForm, Form.row]) | (with_reducible refine hK _ ?_; clear hK K) | (with_reducible refine goL_split (fun h => ?_) (fun h => ?_) <;> first | (exfalso; simp at h; done) | (exfalso; simp at h; omega) | (exfalso; simp at h; contradiction) | ((try simp at h); simp [formsL, rForm, Form.row])) | with_reducible refine And.intro ?_ ?_ | with_reducible exact okay_rfl rfl | with_reducible assumption | (refine W_cond rfl (fun h => ?_) (fun h => ?_) <;> first | (exfalso; simp at h; done) | (exfalso; simp at h; omega) | (exfalso; simp at h; contradiction) | (exfalso; simp_all; done) | (try simp at h)) | (refine W_ret ?_; simp [Fin, formsL, rForm, Form.row]) | omega)

theorem forms_small : formsL.length = 16 ∧ ∀ f, f ∈ formsL → f.rest.length ≤ 3 := by decide

theorem takeAll_drop {k : Int} {r : GReq} {cs : List UInt8} {ws : List (List UInt8)} {j : Nat} {c : UInt8} {w : List UInt8} (hc : cs[j]? = some c) (hw : ws[j]? = some w) :
    takeAll k r (cs.drop j) (ws.drop j) = match takeW k c r w with | some r' => takeAll k r' (cs.drop (j + 1)) (ws.drop (j + 1)) | none => none := by
  rw [drop_get hc, drop_get hw]; rfl

theorem parseReq_ok [P10 GG] [ESyn GG] [ERng GG] [MaxL GG] (line : List UInt8) (hline : line.length ≤ 1048576) : Valid PP GG F_I_parseReq [.d (.str line)] (.tup [.agg ((deskW line).getD zReq).o, .d (.bool (deskW line).isSome)]) [none] := by
  refine v_I_parseReq [.agg ((deskW line).getD zReq).o, .d (.bool (deskW line).isSome)] rfl rfl ?_
  unfold deskW
  by_cases hl : 250 < line.length
  · rw [if_pos hl]
    have hl2 : decide (250 < (line.length : Int)) = true := decide_eq_true (by omega)
    repeat' (first | refine W_seq ?_ | refine W_skip ?_ | refine W_block ?_ | (refine W_exit ?_; first | refine pick_pos rfl ?_ | (refine pick_neg rfl ?_; first | refine pick_pos rfl ?_ | (refine pick_neg rfl ?_; refine pick_pos rfl ?_))) | (refine W_regP fun K hK => ?_; simp [hl2, zReq]) | (refine W_regPD fun K hK => ?_; simp [hl2, zReq]) | (with_reducible refine hK _ ?_; clear hK K) | (with_reducible refine goL_split (fun h => ?_) (fun h => ?_) <;> first | (exfalso; simp at h; done) | (exfalso; simp at h; omega) | (exfalso; simp at h; contradiction) | ((try simp at h); simp [hl2, zReq])) | with_reducible refine And.intro ?_ ?_ | with_reducible exact okay_rfl rfl | with_reducible assumption | (refine W_cond rfl (fun h => ?_) (fun h => ?_) <;> first | (exfalso; simp at h; done) | (exfalso; simp at h; omega) | (exfalso; simp at h; contradiction) | (exfalso; simp_all; done) | (try simp at h)) | (refine W_ret ?_; simp [Fin, hl2, zReq]) | omega)
  rw [if_neg hl]
  dsimp only
  have cs := Split_ok (GG := GG) line 32 (by omega)
  have hcl := cutAt_len 32 line
  have hcm : ∀ p, p ∈ cutAt 32 line → p.length ≤ line.length := fun p => cutAt_mem line
  obtain ⟨p, ps, hps⟩ := cutAt_ne 32 line
  rw [hps] at cs hcl hcm ⊢
  have hpl := hcm p (by simp)
  have cn := deskNumber_ok (GG := GG) p (by omega)
  simp only [List.headD_cons]
  generalize numW p = t at cn ⊢
  obtain ⟨us, hus⟩ : ∃ us, usOf (p :: ps) t.isSome = us := ⟨_, rfl⟩
  rw [hus]
  have hum : ∀ q, q ∈ us → q.length ≤ line.length := by
    intro q hq
    rw [← hus] at hq
    unfold usOf at hq
    split at hq
    · exact hcm q (List.mem_of_mem_drop hq)
    · exact hcm q hq
  have hul : us.length ≤ 251 := by
    rw [← hus]; unfold usOf
    split
    · rw [List.length_drop]; omega
    · omega
  refine W_seq (?_)
  apply W_regS
  · intro K hK
    simp
    repeat' (first | with_reducible exact hK | (with_reducible refine goL_split (fun _ => ?_) (fun _ => ?_) <;> simp) | with_reducible refine And.intro ?_ ?_ | with_reducible exact okay_rfl rfl | with_reducible assumption | omega)
  refine W_seq (?_)
  refine W_seq (?_)
  apply W_regS
  · intro K hK
    simp
    repeat' (first | with_reducible exact hK | (with_reducible refine goL_split (fun _ => ?_) (fun _ => ?_) <;> simp) | with_reducible refine And.intro ?_ ?_ | with_reducible exact okay_rfl rfl | with_reducible assumption | omega)
  refine W_cond rfl (fun h => ?_) (fun h => W_skip ?_)
  · simp at h; omega
  refine W_seq (?_)
  apply W_regS
  · intro K hK
    simp
    repeat' (first | with_reducible exact hK | (with_reducible refine callQ (cs) ?_; simp) | (with_reducible refine goL_split (fun _ => ?_) (fun _ => ?_) <;> simp) | with_reducible refine And.intro ?_ ?_ | with_reducible exact okay_rfl rfl | with_reducible assumption | omega)
  refine W_seq (?_)
  apply W_regS
  · intro K hK
    simp [strsD]
    repeat' (first | with_reducible exact hK | (with_reducible refine callQ (cn) ?_; simp [strsD]) | (with_reducible refine goL_split (fun _ => ?_) (fun _ => ?_) <;> simp [strsD]) | with_reducible refine And.intro ?_ ?_ | with_reducible exact okay_rfl rfl | with_reducible assumption | omega)
  refine W_cut [2, 4, 5, 6] (fun st => st = ⟨[], [(2, .ptr 0 0), (4, .d (.slc 1 (strsD us))), (5, .d (.int .i64 (t.getD 0))), (6, .d (.bool t.isSome))], [(0, .box (zReq.row.map A.d))], 1⟩) ?_ ?_
  · cases t with
    | none =>
      simp [usOf] at hus
      subst hus
      repeat' (first | refine W_seq ?_ | refine W_skip ?_ | refine W_block ?_ | (refine W_exit ?_; first | refine pick_pos rfl ?_ | (refine pick_neg rfl ?_; first | refine pick_pos rfl ?_ | (refine pick_neg rfl ?_; refine pick_pos rfl ?_))) | (refine W_regP fun K hK => ?_; simp) | (refine W_regPD fun K hK => ?_; simp) | (with_reducible refine hK _ ?_; clear hK K) | (with_reducible refine goL_split (fun h => ?_) (fun h => ?_) <;> first | (exfalso; simp at h; done) | (exfalso; simp at h; omega) | (exfalso; simp at h; contradiction) | ((try simp at h); simp)) | with_reducible refine And.intro ?_ ?_ | with_reducible exact okay_rfl rfl | with_reducible assumption | (refine W_cond rfl (fun h => ?_) (fun h => ?_) <;> first | (exfalso; simp at h; done) | (exfalso; simp at h; omega) | (exfalso; simp at h; contradiction) | (exfalso; simp_all; done) | (try simp at h)) | (refine W_ret ?_; simp [Fin]) | omega)
      simp [gc, closeN, liveA, gcV, gcO, renA, renAs, renO, namesAs, namesA, namesO, posn, zReq]
      rfl
    | some n =>
      simp [usOf] at hus
      repeat' (first | refine W_seq ?_ | refine W_skip ?_ | refine W_block ?_ | (refine W_exit ?_; first | refine pick_pos rfl ?_ | (refine pick_neg rfl ?_; first | refine pick_pos rfl ?_ | (refine pick_neg rfl ?_; refine pick_pos rfl ?_))) | (refine W_regP fun K hK => ?_; simp) | (refine W_regPD fun K hK => ?_; simp) | (with_reducible refine hK _ ?_; clear hK K) | (with_reducible refine goL_split (fun h => ?_) (fun h => ?_) <;> first | (exfalso; simp at h; done) | (exfalso; simp at h; omega) | (exfalso; simp at h; contradiction) | ((try simp at h); simp)) | with_reducible refine And.intro ?_ ?_ | with_reducible exact okay_rfl rfl | with_reducible assumption | (refine W_cond rfl (fun h => ?_) (fun h => ?_) <;> first | (exfalso; simp at h; done) | (exfalso; simp at h; omega) | (exfalso; simp at h; contradiction) | (exfalso; simp_all; done) | (try simp at h)) | (refine W_ret ?_; simp [Fin]) | omega)
      simp [gc, closeN, liveA, gcV, gcO, renA, renAs, renO, namesAs, namesA, namesO, posn, hus, zReq]
      simp [strsD, hus]
  rintro st rfl
  clear cn cs hus
  have cf := deskForms_ok (GG := GG)
  unfold deskU
  obtain ⟨hfl, hfr⟩ := forms_small
  generalize formsL = L at cf hfl hfr ⊢
  generalize t.getD 0 = tn
  generalize t.isSome = tb
  repeat' (first | refine W_seq ?_ | refine W_skip ?_ | refine W_block ?_ | (refine W_exit ?_; first | refine pick_pos rfl ?_ | (refine pick_neg rfl ?_; first | refine pick_pos rfl ?_ | (refine pick_neg rfl ?_; refine pick_pos rfl ?_))) | (refine W_regP fun K hK => ?_; simp [zReq]) | (refine W_regPD fun K hK => ?_; simp [zReq]) | (with_reducible refine hK _ ?_; clear hK K) | (with_reducible refine callQ (cf) ?_; simp [zReq]) | (with_reducible refine goL_split (fun h => ?_) (fun h => ?_) <;> first | (exfalso; simp at h; done) | (exfalso; simp at h; omega) | (exfalso; simp at h; contradiction) | ((try simp at h); simp [zReq])) | with_reducible refine And.intro ?_ ?_ | with_reducible exact okay_rfl rfl | with_reducible assumption | (refine W_cond rfl (fun h => ?_) (fun h => ?_) <;> first | (exfalso; simp at h; done) | (exfalso; simp at h; omega) | (exfalso; simp at h; contradiction) | (exfalso; simp_all; done) | (try simp at h)) | (refine W_ret ?_; simp [Fin, zReq]) | omega)
  refine W_loop (fun n st => ∃ i : Nat, n = L.length - i ∧ i ≤ L.length ∧ (∀ f, f ∈ L.take i → matchF us tb f = false) ∧
    st = ⟨[], [(2, .ptr 0 0), (4, .d (.slc 1 (strsD us))), (5, .d (.int .i64 tn)), (6, .d (.bool tb)), (28, .sl 1), (29, .d (.int .i64 L.length)), (30, .d (.int .i64 i))], [(0, .box (zReq.row.map A.d)), (1, .arr 0 0 4 (rForm L))], 2⟩) _ ⟨0, rfl, by omega, fun f h => by simp at h, rfl⟩ ?_
  rintro n st ⟨i, rfl, hi, hn, rfl⟩
  by_cases hlt : i < L.length
  · have ha := List.getElem?_eq_getElem hlt
    generalize L[i] = f at ha
    have hr3 := hfr f (List.mem_of_getElem? ha)
    obtain ⟨v, kd, tk, rest⟩ := f
    simp only at hr3
    have hw1 : IntKind.i64.wrap ((rest.length : Int) + 1) = (rest.length : Int) + 1 := wrap_id (by omega) (by omega)
    by_cases hlen : us.length = rest.length + 1
    · cases us with
      | nil => simp at hlen
      | cons u us =>
      have hlen2 : us.length = rest.length := by simpa using hlen
      by_cases hu : u = v
      · subst hu
        by_cases ht : tk = tb
        · subst ht
          have hm : matchF (u :: us) tk ⟨u, kd, tk, rest⟩ = true := by simp [matchF, hlen]
          have hfind : L.find? (matchF (u :: us) tk) = some ⟨u, kd, tk, rest⟩ := find_hit2 ha hn hm
          rw [hfind]
          simp only [List.drop_succ_cons, List.drop_zero]
          repeat' (first | refine W_seq ?_ | refine W_skip ?_ | refine W_block ?_ | (refine W_exit ?_; first | refine pick_pos rfl ?_ | (refine pick_neg rfl ?_; first | refine pick_pos rfl ?_ | (refine pick_neg rfl ?_; refine pick_pos rfl ?_))) | (refine W_regP fun K hK => ?_; simp [ha, hw1, hlen2, strsD, zReq]) | (refine W_regPD fun K hK => ?_; simp [ha, hw1, hlen2, strsD, zReq]) | (with_reducible refine hK _ ?_; clear hK K) | (with_reducible refine goL_split (fun h => ?_) (fun h => ?_) <;> first | (exfalso; simp at h; done) | (exfalso; simp at h; omega) | (exfalso; simp at h; contradiction) | ((try simp at h); simp [ha, hw1, hlen2, strsD, zReq])) | with_reducible refine And.intro ?_ ?_ | with_reducible exact okay_rfl rfl | with_reducible assumption | (refine W_cond rfl (fun h => ?_) (fun h => ?_) <;> first | (exfalso; simp at h; done) | (exfalso; simp at h; omega) | (exfalso; simp at h; contradiction) | (exfalso; simp_all; done) | (try simp at h)) | (refine W_ret ?_; simp [Fin, ha, hw1, hlen2, strsD, zReq]) | omega)
          refine W_loop (fun n st => ∃ (j : Nat) (r : GReq), n = us.length - j ∧ j ≤ us.length ∧ takeAll kd ⟨kd, tn, [], [], [], 0⟩ rest us = takeAll kd r (rest.drop j) (us.drop j) ∧
            st = ⟨[], [(2, .ptr 0 0), (8, .ptr 1 0), (9, .ptr 2 0), (60, .d (.slc 1 (strsD us))), (61, .d (.int .i64 us.length)), (62, .d (.int .i64 j))], [(0, .box (zReq.row.map A.d)), (1, .box [.d (.str u), .d (.int .i64 kd), .d (.bool tk), .d (.str rest)]), (2, .box (r.row.map A.d))], 3⟩) us.length ⟨0, ⟨kd, tn, [], [], [], 0⟩, rfl, by omega, rfl, ?_⟩ ?_
          · simp [gc, closeN, liveA, gcV, gcO, renA, renAs, renO, namesAs, namesA, namesO, posn, zReq, strsD, hlen2]
          rintro n st ⟨j, r, rfl, hj, hinv, rfl⟩
          rw [hinv]
          by_cases hjl : j < us.length
          · have hw := List.getElem?_eq_getElem hjl
            generalize us[j] = w at hw
            have hc := List.getElem?_eq_getElem (show j < rest.length by omega)
            generalize rest[j]'_ = c at hc
            have hwl := hum w (by simp [List.mem_of_getElem? hw])
            obtain ⟨r', hq, ct⟩ := take_ok (GG := GG) u rest w kd tk r j c hc (by omega) (by omega)
            rw [takeAll_drop hc hw]
            cases htk : takeW kd c r w with
            | none =>
              rw [htk] at ct
              repeat' (first | refine W_seq ?_ | refine W_skip ?_ | refine W_block ?_ | (refine W_exit ?_; first | refine pick_pos rfl ?_ | (refine pick_neg rfl ?_; first | refine pick_pos rfl ?_ | (refine pick_neg rfl ?_; refine pick_pos rfl ?_))) | (refine W_regP fun K hK => ?_; simp [hw, zReq]) | (refine W_regPD fun K hK => ?_; simp [hw, zReq]) | (with_reducible refine hK _ ?_; clear hK K) | (with_reducible refine callQ (ct) ?_; simp [hw, zReq]) | (with_reducible refine goL_split (fun h => ?_) (fun h => ?_) <;> first | (exfalso; simp at h; done) | (exfalso; simp at h; omega) | (exfalso; simp at h; contradiction) | ((try simp at h); simp [hw, zReq])) | with_reducible refine And.intro ?_ ?_ | with_reducible exact okay_rfl rfl | with_reducible assumption | (refine W_cond rfl (fun h => ?_) (fun h => ?_) <;> first | (exfalso; simp at h; done) | (exfalso; simp at h; omega) | (exfalso; simp at h; contradiction) | (exfalso; simp_all; done) | (try simp at h)) | (refine W_ret ?_; simp [Fin, hw, zReq]) | omega)
            | some q =>
              rw [htk] at ct
              have hq' := hq q htk
              subst hq'
              repeat' (first | refine W_seq ?_ | refine W_skip ?_ | refine W_block ?_ | (refine W_exit ?_; first | refine pick_pos rfl ?_ | (refine pick_neg rfl ?_; first | refine pick_pos rfl ?_ | (refine pick_neg rfl ?_; refine pick_pos rfl ?_))) | (refine W_regP fun K hK => ?_; simp [hw, zReq]) | (refine W_regPD fun K hK => ?_; simp [hw, zReq]) | (with_reducible refine hK _ ?_; clear hK K) | (with_reducible refine callQ (ct) ?_; simp [hw, zReq]) | (with_reducible refine goL_split (fun h => ?_) (fun h => ?_) <;> first | (exfalso; simp at h; done) | (exfalso; simp at h; omega) | (exfalso; simp at h; contradiction) | ((try simp at h); simp [hw, zReq])) | with_reducible refine And.intro ?_ ?_ | with_reducible exact okay_rfl rfl | with_reducible assumption | (refine W_cond rfl (fun h => ?_) (fun h => ?_) <;> first | (exfalso; simp at h; done) | (exfalso; simp at h; omega) | (exfalso; simp at h; contradiction) | (exfalso; simp_all; done) | (try simp at h)) | (refine W_ret ?_; simp [Fin, hw, zReq]) | omega)
              refine ⟨us.length - (j + 1), by omega, j + 1, r', rfl, hjl, rfl, ?_⟩
              simp [gc, closeN, liveA, gcV, gcO, renA, renAs, renO, namesAs, namesA, namesO, posn, zReq]
              exact wrap_id (by omega) (by omega)
          · have hje : j = us.length := by omega
            subst hje
            rw [List.drop_of_length_le (Nat.le_refl _), List.drop_of_length_le (by omega)]
            simp only [takeAll]
            repeat' (first | refine W_seq ?_ | refine W_skip ?_ | refine W_block ?_ | (refine W_exit ?_; first | refine pick_pos rfl ?_ | (refine pick_neg rfl ?_; first | refine pick_pos rfl ?_ | (refine pick_neg rfl ?_; refine pick_pos rfl ?_))) | (refine W_regP fun K hK => ?_; simp [zReq]) | (refine W_regPD fun K hK => ?_; simp [zReq]) | (with_reducible refine hK _ ?_; clear hK K) | (with_reducible refine goL_split (fun h => ?_) (fun h => ?_) <;> first | (exfalso; simp at h; done) | (exfalso; simp at h; omega) | (exfalso; simp at h; contradiction) | ((try simp at h); simp [zReq])) | with_reducible refine And.intro ?_ ?_ | with_reducible exact okay_rfl rfl | with_reducible assumption | (refine W_cond rfl (fun h => ?_) (fun h => ?_) <;> first | (exfalso; simp at h; done) | (exfalso; simp at h; omega) | (exfalso; simp at h; contradiction) | (exfalso; simp_all; done) | (try simp at h)) | (refine W_ret ?_; simp [Fin, zReq]) | omega)
        · have htn : (tk != tb) = true := by simpa using ht
          repeat' (first | refine W_seq ?_ | refine W_skip ?_ | refine W_block ?_ | (refine W_exit ?_; first | refine pick_pos rfl ?_ | (refine pick_neg rfl ?_; first | refine pick_pos rfl ?_ | (refine pick_neg rfl ?_; refine pick_pos rfl ?_))) | (refine W_regP fun K hK => ?_; simp [ha, hw1, hlen2, strsD, zReq, htn]) | (refine W_regPD fun K hK => ?_; simp [ha, hw1, hlen2, strsD, zReq, htn]) | (with_reducible refine hK _ ?_; clear hK K) | (with_reducible refine goL_split (fun h => ?_) (fun h => ?_) <;> first | (exfalso; simp at h; done) | (exfalso; simp at h; omega) | (exfalso; simp at h; contradiction) | ((try simp at h); simp [ha, hw1, hlen2, strsD, zReq, htn])) | with_reducible refine And.intro ?_ ?_ | with_reducible exact okay_rfl rfl | with_reducible assumption | (refine W_cond rfl (fun h => ?_) (fun h => ?_) <;> first | (exfalso; simp at h; done) | (exfalso; simp at h; omega) | (exfalso; simp at h; contradiction) | (exfalso; simp_all; done) | (try simp at h)) | (refine W_ret ?_; simp [Fin, ha, hw1, hlen2, strsD, zReq, htn]) | omega)
          refine ⟨L.length - (i + 1), by omega, i + 1, rfl, hlt, take_all ha hn (by simp [matchF, ht]), ?_⟩
          simp [gc, closeN, liveA, gcV, gcO, renA, renAs, renO, namesAs, namesA, namesO, posn, zReq, strsD]
          exact wrap_id (by omega) (by omega)
      · have hun : (u != v) = true := by simpa using hu
        repeat' (first | refine W_seq ?_ | refine W_skip ?_ | refine W_block ?_ | (refine W_exit ?_; first | refine pick_pos rfl ?_ | (refine pick_neg rfl ?_; first | refine pick_pos rfl ?_ | (refine pick_neg rfl ?_; refine pick_pos rfl ?_))) | (refine W_regP fun K hK => ?_; simp [ha, hw1, hlen2, strsD, zReq, hun]) | (refine W_regPD fun K hK => ?_; simp [ha, hw1, hlen2, strsD, zReq, hun]) | (with_reducible refine hK _ ?_; clear hK K) | (with_reducible refine goL_split (fun h => ?_) (fun h => ?_) <;> first | (exfalso; simp at h; done) | (exfalso; simp at h; omega) | (exfalso; simp at h; contradiction) | ((try simp at h); simp [ha, hw1, hlen2, strsD, zReq, hun])) | with_reducible refine And.intro ?_ ?_ | with_reducible exact okay_rfl rfl | with_reducible assumption | (refine W_cond rfl (fun h => ?_) (fun h => ?_) <;> first | (exfalso; simp at h; done) | (exfalso; simp at h; omega) | (exfalso; simp at h; contradiction) | (exfalso; simp_all; done) | (try simp at h)) | (refine W_ret ?_; simp [Fin, ha, hw1, hlen2, strsD, zReq, hun]) | omega)
        refine ⟨L.length - (i + 1), by omega, i + 1, rfl, hlt, take_all ha hn (by simp [matchF, hu]), ?_⟩
        simp [gc, closeN, liveA, gcV, gcO, renA, renAs, renO, namesAs, namesA, namesO, posn, zReq, strsD]
        exact wrap_id (by omega) (by omega)
    · have hln : ((us.length : Int) != (rest.length : Int) + 1) = true := by simp; omega
      repeat' (first | refine W_seq ?_ | refine W_skip ?_ | refine W_block ?_ | (refine W_exit ?_; first | refine pick_pos rfl ?_ | (refine pick_neg rfl ?_; first | refine pick_pos rfl ?_ | (refine pick_neg rfl ?_; refine pick_pos rfl ?_))) | (refine W_regP fun K hK => ?_; simp [ha, hw1, hln, zReq]) | (refine W_regPD fun K hK => ?_; simp [ha, hw1, hln, zReq]) | (with_reducible refine hK _ ?_; clear hK K) | (with_reducible refine goL_split (fun h => ?_) (fun h => ?_) <;> first | (exfalso; simp at h; done) | (exfalso; simp at h; omega) | (exfalso; simp at h; contradiction) | ((try simp at h); simp [ha, hw1, hln, zReq])) | with_reducible refine And.intro ?_ ?_ | with_reducible exact okay_rfl rfl | with_reducible assumption | (refine W_cond rfl (fun h => ?_) (fun h => ?_) <;> first | (exfalso; simp at h; done) | (exfalso; simp at h; omega) | (exfalso; simp at h; contradiction) | (exfalso; simp_all; done) | (try simp at h)) | (refine W_ret ?_; simp [Fin, ha, hw1, hln, zReq]) | omega)
      refine ⟨L.length - (i + 1), by omega, i + 1, rfl, hlt, take_all ha hn (by simp [matchF, hlen]), ?_⟩
      simp [gc, closeN, liveA, gcV, gcO, renA, renAs, renO, namesAs, namesA, namesO, posn, zReq]
      exact wrap_id (by omega) (by omega)
  · rw [List.take_of_length_le (by omega)] at hn
    have hfind : L.find? (matchF us tb) = none := by rw [List.find?_eq_none]; intro f hf; rw [hn f hf]; simp
    rw [hfind]
    repeat' (first | refine W_seq ?_ | refine W_skip ?_ | refine W_block ?_ | (refine W_exit ?_; first | refine pick_pos rfl ?_ | (refine pick_neg rfl ?_; first | refine pick_pos rfl ?_ | (refine pick_neg rfl ?_; refine pick_pos rfl ?_))) | (refine W_regP fun K hK => ?_; simp [zReq]) | (refine W_regPD fun K hK => ?_; simp [zReq]) | (with_reducible refine hK _ ?_; clear hK K) | (with_reducible refine goL_split (fun h => ?_) (fun h => ?_) <;> first | (exfalso; simp at h; done) | (exfalso; simp at h; omega) | (exfalso; simp at h; contradiction) | ((try simp at h); simp [zReq])) | with_reducible refine And.intro ?_ ?_ | with_reducible exact okay_rfl rfl | with_reducible assumption | (refine W_cond rfl (fun h => ?_) (fun h => ?_) <;> first | (exfalso; simp at h; done) | (exfalso; simp at h; omega) | (exfalso; simp at h; contradiction) | (exfalso; simp_all; done) | (try simp at h)) | (refine W_ret ?_; simp [Fin, zReq]) | omega)

end Go.Proofs.YtpboimnecoakiaaDoor.Ab


namespace Go.Proofs
end Go.Proofs
set_option linter.unusedSimpArgs false
set_option linter.unusedVariables false
set_option maxRecDepth 100000
set_option maxHeartbeats 2000000
namespace Go.Proofs.YtpboimnecoakiaaDoor.Ab
open Go.Proofs
variable {GG : GV}

def verbsL : List (List UInt8 × List UInt8) := [([112, 111, 108, 105, 99, 121], [119, 111]), ([116, 111, 107, 101, 110], [111, 110]), ([114, 101, 118, 111, 107, 101], [110]), ([114, 101, 110, 101, 119], [110]), ([112, 117, 116], [112, 110, 111]), ([103, 101, 116], [112, 110]), ([116, 97, 107, 101], [112, 110]), ([108, 105, 115, 116], [113]), ([114, 111, 108, 101], [119, 111, 110]), ([99, 114, 101, 100, 115], [119]), ([119, 114, 97, 112], [112, 110])]

def formsS : List (List UInt8) := [[112, 111, 108, 105, 99, 121, 32, 119, 111], [116, 111, 107, 101, 110, 32, 111, 110], [114, 101, 118, 111, 107, 101, 32, 110], [114, 101, 110, 101, 119, 32, 110], [112, 117, 116, 32, 112, 110, 111], [103, 101, 116, 32, 112, 110], [116, 97, 107, 101, 32, 112, 110], [108, 105, 115, 116, 32, 113], [114, 111, 108, 101, 32, 119, 111, 110], [99, 114, 101, 100, 115, 32, 119], [119, 114, 97, 112, 32, 112, 110]]

def shortV : List (List UInt8) := [[111, 112, 101, 110], [116, 105, 109, 101], [102, 97, 114], [], [99, 114, 97, 115, 104]]

def stepS (c : UInt8) (r : GReq) (w : List UInt8) : Option GReq :=
  if (c.toNat : Int) = 110 then (match numW w with | some n => some { r with fNum := n } | none => none)
  else if (c.toNat : Int) = 119 then some { r with fName := w }
  else if (c.toNat : Int) = 112 then some { r with fPath := w }
  else if (c.toNat : Int) = 113 then (if w = [46] then some r else some { r with fPath := w })
  else if (c.toNat : Int) = 111 then (if w = [46] then some r else some { r with fData := w })
  else some r

def foldS : GReq → List UInt8 → List (List UInt8) → Option GReq
  | r, c :: cs, w :: ws => match stepS c r w with | some r' => foldS r' cs ws | none => none
  | r, _, _ => some r

def endS (k : Nat) (ws : List (List UInt8)) : Option GReq → Option GReq
  | none => none
  | some r => if k = 0 then (match rulW (ws.getD 3 []) with | some d => some { r with fData := d } | none => none) else some r

def matchV (ws : List (List UInt8)) (p : List UInt8 × List UInt8) : Bool := ws.getD 1 [] == p.1 && decide (ws.length = 2 + p.2.length)

def sp3 (ws : List (List UInt8)) (t : Int) : Option GReq := match verbsL.findIdx? (matchV ws) with
  | none => none
  | some k => match verbsL[k]? with
    | none => none
    | some p => endS k ws (foldS ⟨k, t, [], [], [], 0⟩ p.2 (ws.drop 2))

def sp2 (ws : List (List UInt8)) : Option GReq := if ws.length < 2 then none else match numW (ws.getD 0 []) with | none => none | some t => sp3 ws t

def shortI (ws : List (List UInt8)) : Option Nat := if ws.length = 2 then shortV.findIdx? (fun v => ws.getD 0 [] == v) else none

def sp1 (ws : List (List UInt8)) : Option GReq := if ws = [[115, 121, 110, 99]] then some ⟨14, 0, [], [], [], 0⟩ else match shortI ws with
  | some k => (match numW (ws.getD 1 []) with | some n => some ⟨11 + k, 0, [], [], [], n⟩ | none => none)
  | none => sp2 ws

def specW (line : List UInt8) : Option GReq := if 250 < line.length then none else if (cutAt 32 line).all wordB = false then none else sp1 (cutAt 32 line)

theorem s_l19Forms_ok : Valid PP GG F_S_l19Forms [] (.own 0 1 (strsD formsS)) [] := by
  refine v_S_l19Forms [.own 0 1 (strsD formsS)] rfl rfl ?_
  repeat' (first | refine W_seq ?_ | refine W_skip ?_ | refine W_block ?_ | (refine W_exit ?_; first | refine pick_pos rfl ?_ | (refine pick_neg rfl ?_; first | refine pick_pos rfl ?_ | (refine pick_neg rfl ?_; refine pick_pos rfl ?_))) | (refine W_regP fun K hK => ?_; simp [formsS, strsD]) | (refine W_regPD fun K hK => ?_; simp [formsS, strsD]) | (with_reducible refine hK _ ?_; clear hK K) | (with_reducible refine goL_split (fun h => ?_) (fun h => ?_) <;> first | (exfalso; simp at h; done) | (exfalso; simp at h; omega) | (exfalso; simp at h; contradiction) | ((try simp at h); simp [formsS, strsD])) | with_reducible refine And.intro ?_ ?_ | with_reducible exact okay_rfl rfl | with_reducible assumption | (refine W_cond rfl (fun h => ?_) (fun h => ?_) <;> first | (exfalso; simp at h; done) | (exfalso; simp at h; omega) | (exfalso; simp at h; contradiction) | (exfalso; simp_all; done) | (try simp at h)) | (refine W_ret ?_; simp [Fin, formsS, strsD]) | omega)

theorem s_l19Verb_ok (f v g : List UInt8) (hf : cutAt 32 f = [v, g]) (hl : f.length ≤ 1048576) : Valid PP GG F_S_l19Verb [.d (.str f)] (.tup [.d (.str v), .d (.str g)]) [none] := by
  refine v_S_l19Verb [.d (.str v), .d (.str g)] rfl rfl ?_
  have cs := l01Parts_ok (GG := GG) f 32 (by omega)
  change Valid PP GG F_S_l01Parts [.d (.str f), .d (.int .u8 32)] _ _ at cs
  rw [hf] at cs
  have hind := ind_strs [v, g]
  repeat' (first | refine W_seq ?_ | refine W_skip ?_ | refine W_block ?_ | (refine W_exit ?_; first | refine pick_pos rfl ?_ | (refine pick_neg rfl ?_; first | refine pick_pos rfl ?_ | (refine pick_neg rfl ?_; refine pick_pos rfl ?_))) | (refine W_regP fun K hK => ?_; simp [strsD]) | (refine W_regPD fun K hK => ?_; simp [strsD]) | (with_reducible refine hK _ ?_; clear hK K) | (with_reducible refine callQ (cs) ?_; simp [strsD]) | (with_reducible refine goL_split (fun h => ?_) (fun h => ?_) <;> first | (exfalso; simp at h; done) | (exfalso; simp at h; omega) | (exfalso; simp at h; contradiction) | ((try simp at h); simp [strsD])) | with_reducible refine And.intro ?_ ?_ | with_reducible exact okay_rfl rfl | with_reducible assumption | (refine W_cond rfl (fun h => ?_) (fun h => ?_) <;> first | (exfalso; simp at h; done) | (exfalso; simp at h; omega) | (exfalso; simp at h; contradiction) | (exfalso; simp_all; done) | (try simp at h)) | (refine W_ret ?_; simp [Fin, strsD]) | omega)

theorem forms_verbs : formsS.length = 11 ∧ verbsL.length = 11 ∧ ∀ i : _root_.Fin 11, ∃ f v, formsS[i.1]? = some f ∧ verbsL[i.1]? = some v ∧ cutAt 32 f = [v.1, v.2] ∧ f.length ≤ 20 ∧ v.2.length ≤ 3 ∧ (i.1 = 0 → v.2.length = 2) := by
  refine ⟨rfl, rfl, fun i => ?_⟩
  refine ⟨formsS[i.1]'(by simp [formsS]), verbsL[i.1]'(by simp [verbsL]), List.getElem?_eq_getElem _, List.getElem?_eq_getElem _, ?_⟩
  revert i; decide

theorem foldS_drop {r : GReq} {cs : List UInt8} {ws : List (List UInt8)} {j : Nat} {c : UInt8} {w : List UInt8} (hc : cs[j]? = some c) (hw : ws[2 + j]? = some w) :
    foldS r (cs.drop j) (ws.drop (2 + j)) = match stepS c r w with | some r' => foldS r' (cs.drop (j + 1)) (ws.drop (2 + (j + 1))) | none => none := by
  rw [drop_get hc, drop_get hw]; rfl

end Go.Proofs.YtpboimnecoakiaaDoor.Ab


namespace Go.Proofs
end Go.Proofs
set_option linter.unusedSimpArgs false
set_option linter.unusedVariables false
set_option maxRecDepth 100000
set_option maxHeartbeats 2000000
namespace Go.Proofs.YtpboimnecoakiaaDoor.Ab
open Go.Proofs
variable {GG : GV}

theorem findIdx_hit {α : Type} {p : α → Bool} {l : List α} {i : Nat} {x : α} (ha : l[i]? = some x) (hn : ∀ y, y ∈ l.take i → p y = false) (hx : p x = true) : l.findIdx? p = some i := by
  obtain ⟨h, e⟩ := List.getElem?_eq_some_iff.1 ha
  rw [List.findIdx?_eq_some_iff_getElem]
  refine ⟨h, by rw [e]; exact hx, fun j hj => ?_⟩
  have := hn l[j] (List.mem_take_iff_getElem.2 ⟨j, by omega, rfl⟩)
  simp [this]

theorem findIdx_miss {α : Type} {p : α → Bool} {l : List α} (hn : ∀ y, y ∈ l → p y = false) : l.findIdx? p = none := List.findIdx?_eq_none_iff.2 hn

theorem num_same {w : List UInt8} (n : Int) (h : numW w = some n) : numX w = n := by
  obtain ⟨h1, h2, h3, h4⟩ := num_of h
  obtain ⟨_, e, _⟩ := num_good (w := w) (by unfold inB; simp; omega) h3
  rw [e]
  by_cases hlt : (dsOf w).length < w.length
  · rw [if_pos hlt]; have := h4.1 hlt; omega
  · rw [if_neg hlt]; have := mt h4.2 hlt; omega

theorem foldS_drop2 {r : GReq} {cs : List UInt8} {ws : List (List UInt8)} {j : Nat} {c : UInt8} {w : List UInt8} (hc : cs[j]? = some c) (hw : ws[j]? = some w) :
    foldS r (cs.drop j) (ws.drop j) = match stepS c r w with | some r' => foldS r' (cs.drop (j + 1)) (ws.drop (j + 1)) | none => none := by
  rw [drop_get hc, drop_get hw]; rfl

theorem stepS_cases (c : UInt8) (r : GReq) (w : List UInt8) : (c = 110 ∧ numW w = none ∧ stepS c r w = none) ∨ ∃ r' : GReq, stepS c r w = some r' ∧ ((c = 110 ∧ ∃ m, numW w = some m ∧ r' = { r with fNum := m }) ∨ (¬ c.toNat = 110 ∧
    ((c = 119 ∧ r' = { r with fName := w }) ∨ (c = 112 ∧ r' = { r with fPath := w }) ∨ (c = 113 ∧ w = [46] ∧ r' = r) ∨ (c = 113 ∧ ¬ w = [46] ∧ r' = { r with fPath := w }) ∨ (c = 111 ∧ w = [46] ∧ r' = r) ∨ (c = 111 ∧ ¬ w = [46] ∧ r' = { r with fData := w }) ∨
     (¬ c.toNat = 119 ∧ ¬ c.toNat = 112 ∧ ¬ c.toNat = 113 ∧ ¬ c.toNat = 111 ∧ r' = r)))) := by
  have key : ∀ n : Nat, n < 256 → c.toNat = n → c = UInt8.ofNat n := fun n hn h => by rw [← h]; simp
  unfold stepS
  by_cases h1 : c.toNat = 110
  · obtain rfl := key _ (by omega) h1
    cases hn : numW w with
    | none => exact .inl ⟨rfl, rfl, rfl⟩
    | some m => exact .inr ⟨_, rfl, .inl ⟨rfl, m, rfl, rfl⟩⟩
  · rw [if_neg (by omega)]
    by_cases h2 : c.toNat = 119
    · obtain rfl := key _ (by omega) h2
      exact .inr ⟨_, rfl, .inr ⟨h1, .inl ⟨rfl, rfl⟩⟩⟩
    rw [if_neg (by omega)]
    by_cases h3 : c.toNat = 112
    · obtain rfl := key _ (by omega) h3
      exact .inr ⟨_, rfl, .inr ⟨h1, .inr (.inl ⟨rfl, rfl⟩)⟩⟩
    rw [if_neg (by omega)]
    by_cases h4 : c.toNat = 113
    · obtain rfl := key _ (by omega) h4
      rw [if_pos (by decide)]
      by_cases hd : w = [46]
      · rw [if_pos hd]; exact .inr ⟨_, rfl, .inr ⟨h1, .inr (.inr (.inl ⟨rfl, hd, rfl⟩))⟩⟩
      · rw [if_neg hd]; exact .inr ⟨_, rfl, .inr ⟨h1, .inr (.inr (.inr (.inl ⟨rfl, hd, rfl⟩)))⟩⟩
    rw [if_neg (by omega)]
    by_cases h5 : c.toNat = 111
    · obtain rfl := key _ (by omega) h5
      rw [if_pos (by decide)]
      by_cases hd : w = [46]
      · rw [if_pos hd]; exact .inr ⟨_, rfl, .inr ⟨h1, .inr (.inr (.inr (.inr (.inl ⟨rfl, hd, rfl⟩))))⟩⟩
      · rw [if_neg hd]; exact .inr ⟨_, rfl, .inr ⟨h1, .inr (.inr (.inr (.inr (.inr (.inl ⟨rfl, hd, rfl⟩)))))⟩⟩
    rw [if_neg (by omega)]
    exact .inr ⟨_, rfl, .inr ⟨h1, .inr (.inr (.inr (.inr (.inr (.inr ⟨h2, h3, h4, h5, rfl⟩)))))⟩⟩

def S0 (ws : List (List UInt8)) : St := ⟨[], [(2, .ptr 0 0), (4, .ptr 1 0), (5, .sl 2)], [(0, .box (zReq.row.map A.d)), (1, .box (zReq.row.map A.d)), (2, .arr 0 0 1 (strsD ws))], 3⟩

theorem s_ParseReq_ok (line : List UInt8) (hline : line.length ≤ 1048576) : Valid PP GG F_S_ParseReq [.d (.str line)] (.tup [.agg ((specW line).getD zReq).o, .d (.bool (specW line).isSome)]) [none] := by
  refine v_S_ParseReq [.agg ((specW line).getD zReq).o, .d (.bool (specW line).isSome)] rfl rfl ?_
  unfold specW
  by_cases hl : 250 < line.length
  · rw [if_pos hl]
    have hl2 : decide (250 < (line.length : Int)) = true := decide_eq_true (by omega)
    repeat' (first | refine W_seq ?_ | refine W_skip ?_ | refine W_block ?_ | (refine W_exit ?_; first | refine pick_pos rfl ?_ | (refine pick_neg rfl ?_; first | refine pick_pos rfl ?_ | (refine pick_neg rfl ?_; refine pick_pos rfl ?_))) | (refine W_regP fun K hK => ?_; simp [hl2, zReq]) | (refine W_regPD fun K hK => ?_; simp [hl2, zReq]) | (with_reducible refine hK _ ?_; clear hK K) | (with_reducible refine goL_split (fun h => ?_) (fun h => ?_) <;> first | (exfalso; simp at h; done) | (exfalso; simp at h; omega) | (exfalso; simp at h; contradiction) | ((try simp at h); simp [hl2, zReq])) | with_reducible refine And.intro ?_ ?_ | with_reducible exact okay_rfl rfl | with_reducible assumption | (refine W_cond rfl (fun h => ?_) (fun h => ?_) <;> first | (exfalso; simp at h; done) | (exfalso; simp at h; omega) | (exfalso; simp at h; contradiction) | (exfalso; simp_all; done) | (try simp at h)) | (refine W_ret ?_; simp [Fin, hl2, zReq]) | omega)
  rw [if_neg hl]
  have cs := l01Parts_ok (GG := GG) line 32 (by omega)
  change Valid PP GG F_S_l01Parts [.d (.str line), .d (.int .u8 32)] _ _ at cs
  have hcl := cutAt_len 32 line
  have hcm : ∀ p, p ∈ cutAt 32 line → p.length ≤ line.length := fun p => cutAt_mem line
  obtain ⟨p0, ps0, hps⟩ := cutAt_ne 32 line
  have hne : cutAt 32 line ≠ [] := by rw [hps]; simp
  clear hps
  generalize cutAt 32 line = ws at *
  obtain ⟨R, hR⟩ : ∃ R, (if ws.all wordB = false then none else sp1 ws) = R := ⟨_, rfl⟩
  rw [hR]
  have hind := ind_strs ws
  refine W_seq (?_)
  apply W_regS
  · intro K hK
    simp
    repeat' (first | with_reducible exact hK | (with_reducible refine goL_split (fun _ => ?_) (fun _ => ?_) <;> simp) | with_reducible refine And.intro ?_ ?_ | with_reducible exact okay_rfl rfl | with_reducible assumption | omega)
  refine W_seq (?_)
  apply W_regS
  · intro K hK
    simp
    repeat' (first | with_reducible exact hK | (with_reducible refine goL_split (fun _ => ?_) (fun _ => ?_) <;> simp) | with_reducible refine And.intro ?_ ?_ | with_reducible exact okay_rfl rfl | with_reducible assumption | omega)
  refine W_seq (?_)
  refine W_seq (?_)
  apply W_regS
  · intro K hK
    simp
    repeat' (first | with_reducible exact hK | (with_reducible refine goL_split (fun _ => ?_) (fun _ => ?_) <;> simp) | with_reducible refine And.intro ?_ ?_ | with_reducible exact okay_rfl rfl | with_reducible assumption | omega)
  refine W_cond rfl (fun h => ?_) (fun h => W_skip ?_)
  · simp at h; omega
  refine W_seq (?_)
  apply W_regS
  · intro K hK
    simp
    repeat' (first | with_reducible exact hK | (with_reducible refine callQ (cs) ?_; simp) | (with_reducible refine goL_split (fun _ => ?_) (fun _ => ?_) <;> simp) | with_reducible refine And.intro ?_ ?_ | with_reducible exact okay_rfl rfl | with_reducible assumption | omega)
  refine W_cut [2, 4, 5] (fun st => ws.all wordB = true ∧ st = S0 ws) ?_ ?_
  · repeat' (first | refine W_seq ?_ | refine W_skip ?_ | refine W_block ?_ | (refine W_exit ?_; first | refine pick_pos rfl ?_ | (refine pick_neg rfl ?_; first | refine pick_pos rfl ?_ | (refine pick_neg rfl ?_; refine pick_pos rfl ?_))) | (refine W_regP fun K hK => ?_; simp) | (refine W_regPD fun K hK => ?_; simp) | (with_reducible refine hK _ ?_; clear hK K) | (with_reducible refine goL_split (fun h => ?_) (fun h => ?_) <;> first | (exfalso; simp at h; done) | (exfalso; simp at h; omega) | (exfalso; simp at h; contradiction) | ((try simp at h); simp)) | with_reducible refine And.intro ?_ ?_ | with_reducible exact okay_rfl rfl | with_reducible assumption | (refine W_cond rfl (fun h => ?_) (fun h => ?_) <;> first | (exfalso; simp at h; done) | (exfalso; simp at h; omega) | (exfalso; simp at h; contradiction) | (exfalso; simp_all; done) | (try simp at h)) | (refine W_ret ?_; simp [Fin]) | omega)
    refine W_loop (fun n st => ∃ i : Nat, n = ws.length - i ∧ i ≤ ws.length ∧ (∀ w, w ∈ ws.take i → wordB w = true) ∧
      st = ⟨[], [(2, .ptr 0 0), (4, .ptr 1 0), (5, .sl 2), (6, .d (.int .i64 i))], [(0, .box (zReq.row.map A.d)), (1, .box (zReq.row.map A.d)), (2, .arr 0 0 1 (strsD ws))], 3⟩) _ ⟨0, rfl, by omega, fun w h => by simp at h, rfl⟩ ?_
    rintro n st ⟨i, rfl, hi, hn, rfl⟩
    by_cases hlt : i < ws.length
    · have ha := List.getElem?_eq_getElem hlt
      generalize ws[i] = w at ha
      have hwl := hcm w (List.mem_of_getElem? ha)
      have cw := s_l19Word_ok (GG := GG) w (by omega)
      cases hb : wordB w with
      | false =>
        rw [hb] at cw
        have hall : ws.all wordB = false := List.all_eq_false.2 ⟨w, List.mem_of_getElem? ha, by rw [hb]; simp⟩
        rw [if_pos hall] at hR
        subst hR
        repeat' (first | refine W_seq ?_ | refine W_skip ?_ | refine W_block ?_ | (refine W_exit ?_; first | refine pick_pos rfl ?_ | (refine pick_neg rfl ?_; first | refine pick_pos rfl ?_ | (refine pick_neg rfl ?_; refine pick_pos rfl ?_))) | (refine W_regP fun K hK => ?_; simp [ha, zReq]) | (refine W_regPD fun K hK => ?_; simp [ha, zReq]) | (with_reducible refine hK _ ?_; clear hK K) | (with_reducible refine callQ (cw) ?_; simp [ha, zReq]) | (with_reducible refine goL_split (fun h => ?_) (fun h => ?_) <;> first | (exfalso; simp at h; done) | (exfalso; simp at h; omega) | (exfalso; simp at h; contradiction) | ((try simp at h); simp [ha, zReq])) | with_reducible refine And.intro ?_ ?_ | with_reducible exact okay_rfl rfl | with_reducible assumption | (refine W_cond rfl (fun h => ?_) (fun h => ?_) <;> first | (exfalso; simp at h; done) | (exfalso; simp at h; omega) | (exfalso; simp at h; contradiction) | (exfalso; simp_all; done) | (try simp at h)) | (refine W_ret ?_; simp [Fin, ha, zReq]) | omega)
      | true =>
        rw [hb] at cw
        repeat' (first | refine W_seq ?_ | refine W_skip ?_ | refine W_block ?_ | (refine W_exit ?_; first | refine pick_pos rfl ?_ | (refine pick_neg rfl ?_; first | refine pick_pos rfl ?_ | (refine pick_neg rfl ?_; refine pick_pos rfl ?_))) | (refine W_regP fun K hK => ?_; simp [ha, zReq]) | (refine W_regPD fun K hK => ?_; simp [ha, zReq]) | (with_reducible refine hK _ ?_; clear hK K) | (with_reducible refine callQ (cw) ?_; simp [ha, zReq]) | (with_reducible refine goL_split (fun h => ?_) (fun h => ?_) <;> first | (exfalso; simp at h; done) | (exfalso; simp at h; omega) | (exfalso; simp at h; contradiction) | ((try simp at h); simp [ha, zReq])) | with_reducible refine And.intro ?_ ?_ | with_reducible exact okay_rfl rfl | with_reducible assumption | (refine W_cond rfl (fun h => ?_) (fun h => ?_) <;> first | (exfalso; simp at h; done) | (exfalso; simp at h; omega) | (exfalso; simp at h; contradiction) | (exfalso; simp_all; done) | (try simp at h)) | (refine W_ret ?_; simp [Fin, ha, zReq]) | omega)
        refine ⟨ws.length - (i + 1), by omega, i + 1, rfl, hlt, take_all ha hn hb, ?_⟩
        simp [gc, closeN, liveA, gcV, gcO, renA, renAs, renO, namesAs, namesA, namesO, posn, zReq]
        exact wrap_id (by omega) (by omega)
    · rw [List.take_of_length_le (by omega)] at hn
      have hall : ws.all wordB = true := List.all_eq_true.2 hn
      repeat' (first | refine W_seq ?_ | refine W_skip ?_ | refine W_block ?_ | (refine W_exit ?_; first | refine pick_pos rfl ?_ | (refine pick_neg rfl ?_; first | refine pick_pos rfl ?_ | (refine pick_neg rfl ?_; refine pick_pos rfl ?_))) | (refine W_regP fun K hK => ?_; simp [zReq]) | (refine W_regPD fun K hK => ?_; simp [zReq]) | (with_reducible refine hK _ ?_; clear hK K) | (with_reducible refine goL_split (fun h => ?_) (fun h => ?_) <;> first | (exfalso; simp at h; done) | (exfalso; simp at h; omega) | (exfalso; simp at h; contradiction) | ((try simp at h); simp [zReq])) | with_reducible refine And.intro ?_ ?_ | with_reducible exact okay_rfl rfl | with_reducible assumption | (refine W_cond rfl (fun h => ?_) (fun h => ?_) <;> first | (exfalso; simp at h; done) | (exfalso; simp at h; omega) | (exfalso; simp at h; contradiction) | (exfalso; simp_all; done) | (try simp at h)) | (refine W_ret ?_; simp [Fin, zReq]) | omega)
      simp [gc, closeN, liveA, gcV, gcO, renA, renAs, renO, namesAs, namesA, namesO, posn, S0, zReq]
  rintro st ⟨hall, rfl⟩
  rw [if_neg (by rw [hall]; simp)] at hR
  clear hall cs
  unfold sp1 at hR
  unfold S0
  by_cases hsy : ws = [[115, 121, 110, 99]]
  · rw [if_pos hsy] at hR
    subst hsy hR
    repeat' (first | refine W_seq ?_ | refine W_skip ?_ | refine W_block ?_ | (refine W_exit ?_; first | refine pick_pos rfl ?_ | (refine pick_neg rfl ?_; first | refine pick_pos rfl ?_ | (refine pick_neg rfl ?_; refine pick_pos rfl ?_))) | (refine W_regP fun K hK => ?_; simp [strsD, zReq]) | (refine W_regPD fun K hK => ?_; simp [strsD, zReq]) | (with_reducible refine hK _ ?_; clear hK K) | (with_reducible refine goL_split (fun h => ?_) (fun h => ?_) <;> first | (exfalso; simp at h; done) | (exfalso; simp at h; omega) | (exfalso; simp at h; contradiction) | ((try simp at h); simp [strsD, zReq])) | with_reducible refine And.intro ?_ ?_ | with_reducible exact okay_rfl rfl | with_reducible assumption | (refine W_cond rfl (fun h => ?_) (fun h => ?_) <;> first | (exfalso; simp at h; done) | (exfalso; simp at h; omega) | (exfalso; simp at h; contradiction) | (exfalso; simp_all; done) | (try simp at h)) | (refine W_ret ?_; simp [Fin, strsD, zReq]) | omega)
  rw [if_neg hsy] at hR
  refine W_cut [2, 4, 5] (fun st => st = S0 ws) ?_ ?_
  · by_cases h1 : ws.length = 1
    · obtain ⟨w, rfl⟩ := List.length_eq_one_iff.1 h1
      have hwn : (w == [115, 121, 110, 99]) = false := by simpa using hsy
      repeat' (first | refine W_seq ?_ | refine W_skip ?_ | refine W_block ?_ | (refine W_exit ?_; first | refine pick_pos rfl ?_ | (refine pick_neg rfl ?_; first | refine pick_pos rfl ?_ | (refine pick_neg rfl ?_; refine pick_pos rfl ?_))) | (refine W_regP fun K hK => ?_; simp [strsD, hwn]) | (refine W_regPD fun K hK => ?_; simp [strsD, hwn]) | (with_reducible refine hK _ ?_; clear hK K) | (with_reducible refine goL_split (fun h => ?_) (fun h => ?_) <;> first | (exfalso; simp at h; done) | (exfalso; simp at h; omega) | (exfalso; simp at h; contradiction) | ((try simp at h); simp [strsD, hwn])) | with_reducible refine And.intro ?_ ?_ | with_reducible exact okay_rfl rfl | with_reducible assumption | (refine W_cond rfl (fun h => ?_) (fun h => ?_) <;> first | (exfalso; simp at h; done) | (exfalso; simp at h; omega) | (exfalso; simp at h; contradiction) | (exfalso; simp_all; done) | (try simp at h)) | (refine W_ret ?_; simp [Fin, strsD, hwn]) | omega)
      simp [gc, closeN, liveA, gcV, gcO, renA, renAs, renO, namesAs, namesA, namesO, posn, S0, zReq, strsD]
    · have h1' : ((ws.length : Int) == 1) = false := by simp; omega
      repeat' (first | refine W_seq ?_ | refine W_skip ?_ | refine W_block ?_ | (refine W_exit ?_; first | refine pick_pos rfl ?_ | (refine pick_neg rfl ?_; first | refine pick_pos rfl ?_ | (refine pick_neg rfl ?_; refine pick_pos rfl ?_))) | (refine W_regP fun K hK => ?_; simp [h1']) | (refine W_regPD fun K hK => ?_; simp [h1']) | (with_reducible refine hK _ ?_; clear hK K) | (with_reducible refine goL_split (fun h => ?_) (fun h => ?_) <;> first | (exfalso; simp at h; done) | (exfalso; simp at h; omega) | (exfalso; simp at h; contradiction) | ((try simp at h); simp [h1'])) | with_reducible refine And.intro ?_ ?_ | with_reducible exact okay_rfl rfl | with_reducible assumption | (refine W_cond rfl (fun h => ?_) (fun h => ?_) <;> first | (exfalso; simp at h; done) | (exfalso; simp at h; omega) | (exfalso; simp at h; contradiction) | (exfalso; simp_all; done) | (try simp at h)) | (refine W_ret ?_; simp [Fin, h1']) | omega)
      simp [gc, closeN, liveA, gcV, gcO, renA, renAs, renO, namesAs, namesA, namesO, posn, S0, zReq]
  rintro st rfl
  unfold S0
  refine W_cut [2, 4, 5] (fun st => shortI ws = none ∧ st = S0 ws) ?_ ?_
  · by_cases h2 : ws.length = 2
    · obtain ⟨a, b, rfl⟩ : ∃ a b, ws = [a, b] := by
        match ws, h2 with
        | [a, b], _ => exact ⟨a, b, rfl⟩
      have hal := hcm a (by simp)
      have hbl := hcm b (by simp)
      have hsi : shortI [a, b] = shortV.findIdx? (fun v => a == v) := rfl
      have hsl : shortV.length = 5 := rfl
      have cn := s_l19Number_ok (GG := GG) b (by omega)
      have hnx : ∀ n, numW b = some n → numX b = n := num_same
      repeat' (first | refine W_seq ?_ | refine W_skip ?_ | refine W_block ?_ | (refine W_exit ?_; first | refine pick_pos rfl ?_ | (refine pick_neg rfl ?_; first | refine pick_pos rfl ?_ | (refine pick_neg rfl ?_; refine pick_pos rfl ?_))) | (refine W_regP fun K hK => ?_; simp) | (refine W_regPD fun K hK => ?_; simp) | (with_reducible refine hK _ ?_; clear hK K) | (with_reducible refine goL_split (fun h => ?_) (fun h => ?_) <;> first | (exfalso; simp at h; done) | (exfalso; simp at h; omega) | (exfalso; simp at h; contradiction) | ((try simp at h); simp)) | with_reducible refine And.intro ?_ ?_ | with_reducible exact okay_rfl rfl | with_reducible assumption | (refine W_cond rfl (fun h => ?_) (fun h => ?_) <;> first | (exfalso; simp at h; done) | (exfalso; simp at h; omega) | (exfalso; simp at h; contradiction) | (exfalso; simp_all; done) | (try simp at h)) | (refine W_ret ?_; simp [Fin]) | omega)
      refine W_loop (fun n st => ∃ k : Nat, n = 5 - k ∧ k ≤ 5 ∧ (∀ v, v ∈ shortV.take k → (a == v) = false) ∧
        st = ⟨[], [(2, .ptr 0 0), (4, .ptr 1 0), (5, .sl 2), (7, .sl 3), (8, .d (.int .i64 k))], [(0, .box (zReq.row.map A.d)), (1, .box (zReq.row.map A.d)), (2, .arr 0 0 1 (strsD [a, b])), (3, .arr 0 0 1 (strsD shortV))], 4⟩) _ ⟨0, rfl, by omega, fun w h => by simp at h, rfl⟩ ?_
      rintro n st ⟨k, rfl, hk, hn, rfl⟩
      by_cases hlt : k < 5
      · have hv := List.getElem?_eq_getElem (show k < shortV.length by omega)
        generalize shortV[k]'_ = v at hv
        cases hav : (a == v) with
        | true =>
          have hf : shortV.findIdx? (fun v => a == v) = some k := findIdx_hit hv hn hav
          rw [hsi, hf] at hR
          simp only [List.getD_cons_succ, List.getD_cons_zero] at hR
          have hw1 : IntKind.i64.wrap (11 + (k : Int)) = 11 + (k : Int) := wrap_id (by omega) (by omega)
          cases hnb : numW b with
          | none =>
            rw [hnb] at cn hR
            subst hR
            repeat' (first | refine W_seq ?_ | refine W_skip ?_ | refine W_block ?_ | (refine W_exit ?_; first | refine pick_pos rfl ?_ | (refine pick_neg rfl ?_; first | refine pick_pos rfl ?_ | (refine pick_neg rfl ?_; refine pick_pos rfl ?_))) | (refine W_regP fun K hK => ?_; simp [strsD, hv, hav, zReq]) | (refine W_regPD fun K hK => ?_; simp [strsD, hv, hav, zReq]) | (with_reducible refine hK _ ?_; clear hK K) | (with_reducible refine callQ (cn) ?_; simp [strsD, hv, hav, zReq]) | (with_reducible refine goL_split (fun h => ?_) (fun h => ?_) <;> first | (exfalso; simp at h; done) | (exfalso; simp at h; omega) | (exfalso; simp at h; contradiction) | ((try simp at h); simp [strsD, hv, hav, zReq])) | with_reducible refine And.intro ?_ ?_ | with_reducible exact okay_rfl rfl | with_reducible assumption | (refine W_cond rfl (fun h => ?_) (fun h => ?_) <;> first | (exfalso; simp at h; done) | (exfalso; simp at h; omega) | (exfalso; simp at h; contradiction) | (exfalso; simp_all; done) | (try simp at h)) | (refine W_ret ?_; simp [Fin, strsD, hv, hav, zReq]) | omega)
          | some m =>
            rw [hnb] at cn hR
            rw [hnx m hnb] at cn
            simp only at hR
            subst hR
            repeat' (first | refine W_seq ?_ | refine W_skip ?_ | refine W_block ?_ | (refine W_exit ?_; first | refine pick_pos rfl ?_ | (refine pick_neg rfl ?_; first | refine pick_pos rfl ?_ | (refine pick_neg rfl ?_; refine pick_pos rfl ?_))) | (refine W_regP fun K hK => ?_; simp [strsD, hv, hav, zReq, hw1]) | (refine W_regPD fun K hK => ?_; simp [strsD, hv, hav, zReq, hw1]) | (with_reducible refine hK _ ?_; clear hK K) | (with_reducible refine callQ (cn) ?_; simp [strsD, hv, hav, zReq, hw1]) | (with_reducible refine goL_split (fun h => ?_) (fun h => ?_) <;> first | (exfalso; simp at h; done) | (exfalso; simp at h; omega) | (exfalso; simp at h; contradiction) | ((try simp at h); simp [strsD, hv, hav, zReq, hw1])) | with_reducible refine And.intro ?_ ?_ | with_reducible exact okay_rfl rfl | with_reducible assumption | (refine W_cond rfl (fun h => ?_) (fun h => ?_) <;> first | (exfalso; simp at h; done) | (exfalso; simp at h; omega) | (exfalso; simp at h; contradiction) | (exfalso; simp_all; done) | (try simp at h)) | (refine W_ret ?_; simp [Fin, strsD, hv, hav, zReq, hw1]) | omega)
        | false =>
          repeat' (first | refine W_seq ?_ | refine W_skip ?_ | refine W_block ?_ | (refine W_exit ?_; first | refine pick_pos rfl ?_ | (refine pick_neg rfl ?_; first | refine pick_pos rfl ?_ | (refine pick_neg rfl ?_; refine pick_pos rfl ?_))) | (refine W_regP fun K hK => ?_; simp [strsD, hv, hav, zReq]) | (refine W_regPD fun K hK => ?_; simp [strsD, hv, hav, zReq]) | (with_reducible refine hK _ ?_; clear hK K) | (with_reducible refine goL_split (fun h => ?_) (fun h => ?_) <;> first | (exfalso; simp at h; done) | (exfalso; simp at h; omega) | (exfalso; simp at h; contradiction) | ((try simp at h); simp [strsD, hv, hav, zReq])) | with_reducible refine And.intro ?_ ?_ | with_reducible exact okay_rfl rfl | with_reducible assumption | (refine W_cond rfl (fun h => ?_) (fun h => ?_) <;> first | (exfalso; simp at h; done) | (exfalso; simp at h; omega) | (exfalso; simp at h; contradiction) | (exfalso; simp_all; done) | (try simp at h)) | (refine W_ret ?_; simp [Fin, strsD, hv, hav, zReq]) | omega)
          refine ⟨5 - (k + 1), by omega, k + 1, rfl, hlt, take_all hv hn hav, ?_⟩
          simp [gc, closeN, liveA, gcV, gcO, renA, renAs, renO, namesAs, namesA, namesO, posn, zReq, strsD]
          exact wrap_id (by omega) (by omega)
      · rw [List.take_of_length_le (by omega)] at hn
        have hf : shortV.findIdx? (fun v => a == v) = none := findIdx_miss hn
        have hsn := hsi.trans hf
        repeat' (first | refine W_seq ?_ | refine W_skip ?_ | refine W_block ?_ | (refine W_exit ?_; first | refine pick_pos rfl ?_ | (refine pick_neg rfl ?_; first | refine pick_pos rfl ?_ | (refine pick_neg rfl ?_; refine pick_pos rfl ?_))) | (refine W_regP fun K hK => ?_; simp [zReq]) | (refine W_regPD fun K hK => ?_; simp [zReq]) | (with_reducible refine hK _ ?_; clear hK K) | (with_reducible refine goL_split (fun h => ?_) (fun h => ?_) <;> first | (exfalso; simp at h; done) | (exfalso; simp at h; omega) | (exfalso; simp at h; contradiction) | ((try simp at h); simp [zReq])) | with_reducible refine And.intro ?_ ?_ | with_reducible exact okay_rfl rfl | with_reducible assumption | (refine W_cond rfl (fun h => ?_) (fun h => ?_) <;> first | (exfalso; simp at h; done) | (exfalso; simp at h; omega) | (exfalso; simp at h; contradiction) | (exfalso; simp_all; done) | (try simp at h)) | (refine W_ret ?_; simp [Fin, zReq]) | omega)
        simp [gc, closeN, liveA, gcV, gcO, renA, renAs, renO, namesAs, namesA, namesO, posn, S0, zReq, strsD]
    · have hsi : shortI ws = none := by unfold shortI; rw [if_neg h2]
      have h2' : ((ws.length : Int) == 2) = false := by simp; omega
      repeat' (first | refine W_seq ?_ | refine W_skip ?_ | refine W_block ?_ | (refine W_exit ?_; first | refine pick_pos rfl ?_ | (refine pick_neg rfl ?_; first | refine pick_pos rfl ?_ | (refine pick_neg rfl ?_; refine pick_pos rfl ?_))) | (refine W_regP fun K hK => ?_; simp [h2']) | (refine W_regPD fun K hK => ?_; simp [h2']) | (with_reducible refine hK _ ?_; clear hK K) | (with_reducible refine goL_split (fun h => ?_) (fun h => ?_) <;> first | (exfalso; simp at h; done) | (exfalso; simp at h; omega) | (exfalso; simp at h; contradiction) | ((try simp at h); simp [h2'])) | with_reducible refine And.intro ?_ ?_ | with_reducible exact okay_rfl rfl | with_reducible assumption | (refine W_cond rfl (fun h => ?_) (fun h => ?_) <;> first | (exfalso; simp at h; done) | (exfalso; simp at h; omega) | (exfalso; simp at h; contradiction) | (exfalso; simp_all; done) | (try simp at h)) | (refine W_ret ?_; simp [Fin, h2']) | omega)
      simp [gc, closeN, liveA, gcV, gcO, renA, renAs, renO, namesAs, namesA, namesO, posn, S0, zReq]
  rintro st ⟨hsi, rfl⟩
  rw [hsi] at hR
  simp only at hR
  unfold S0
  unfold sp2 at hR
  by_cases h2 : ws.length < 2
  · rw [if_pos h2] at hR
    subst hR
    have h2' : decide ((ws.length : Int) < 2) = true := decide_eq_true (by omega)
    repeat' (first | refine W_seq ?_ | refine W_skip ?_ | refine W_block ?_ | (refine W_exit ?_; first | refine pick_pos rfl ?_ | (refine pick_neg rfl ?_; first | refine pick_pos rfl ?_ | (refine pick_neg rfl ?_; refine pick_pos rfl ?_))) | (refine W_regP fun K hK => ?_; simp [h2', zReq]) | (refine W_regPD fun K hK => ?_; simp [h2', zReq]) | (with_reducible refine hK _ ?_; clear hK K) | (with_reducible refine goL_split (fun h => ?_) (fun h => ?_) <;> first | (exfalso; simp at h; done) | (exfalso; simp at h; omega) | (exfalso; simp at h; contradiction) | ((try simp at h); simp [h2', zReq])) | with_reducible refine And.intro ?_ ?_ | with_reducible exact okay_rfl rfl | with_reducible assumption | (refine W_cond rfl (fun h => ?_) (fun h => ?_) <;> first | (exfalso; simp at h; done) | (exfalso; simp at h; omega) | (exfalso; simp at h; contradiction) | (exfalso; simp_all; done) | (try simp at h)) | (refine W_ret ?_; simp [Fin, h2', zReq]) | omega)
  rw [if_neg h2] at hR
  have h2' : decide ((ws.length : Int) < 2) = false := decide_eq_false (by omega)
  obtain ⟨a, b, args, rfl⟩ : ∃ a b args, ws = a :: b :: args := by
    match ws, h2 with
    | a :: b :: args, _ => exact ⟨a, b, args, rfl⟩
    | [], h => simp at h
    | [_], h => simp at h
  have hal := hcm a (by simp)
  have cn := s_l19Number_ok (GG := GG) a (by omega)
  have hnx : ∀ n, numW a = some n → numX a = n := num_same
  simp only [List.getD_cons_zero] at hR
  cases hna : numW a with
  | none =>
    rw [hna] at cn hR
    subst hR
    repeat' (first | refine W_seq ?_ | refine W_skip ?_ | refine W_block ?_ | (refine W_exit ?_; first | refine pick_pos rfl ?_ | (refine pick_neg rfl ?_; first | refine pick_pos rfl ?_ | (refine pick_neg rfl ?_; refine pick_pos rfl ?_))) | (refine W_regP fun K hK => ?_; simp [h2', strsD, zReq]) | (refine W_regPD fun K hK => ?_; simp [h2', strsD, zReq]) | (with_reducible refine hK _ ?_; clear hK K) | (with_reducible refine callQ (cn) ?_; simp [h2', strsD, zReq]) | (with_reducible refine goL_split (fun h => ?_) (fun h => ?_) <;> first | (exfalso; simp at h; done) | (exfalso; simp at h; omega) | (exfalso; simp at h; contradiction) | ((try simp at h); simp [h2', strsD, zReq])) | with_reducible refine And.intro ?_ ?_ | with_reducible exact okay_rfl rfl | with_reducible assumption | (refine W_cond rfl (fun h => ?_) (fun h => ?_) <;> first | (exfalso; simp at h; done) | (exfalso; simp at h; omega) | (exfalso; simp at h; contradiction) | (exfalso; simp_all; done) | (try simp at h)) | (refine W_ret ?_; simp [Fin, h2', strsD, zReq]) | omega)
  | some t =>
  rw [hna] at cn hR
  rw [hnx t hna] at cn
  simp only at hR
  have cf := s_l19Forms_ok (GG := GG)
  obtain ⟨hF, hV, hFV⟩ := forms_verbs
  have hindf := ind_strs formsS
  clear hnx hna hsi hsy
  unfold sp3 at hR
  generalize formsS = Fm at *
  generalize verbsL = Vb at *
  repeat' (first | refine W_seq ?_ | refine W_skip ?_ | refine W_block ?_ | (refine W_exit ?_; first | refine pick_pos rfl ?_ | (refine pick_neg rfl ?_; first | refine pick_pos rfl ?_ | (refine pick_neg rfl ?_; refine pick_pos rfl ?_))) | (refine W_regP fun K hK => ?_; simp [h2', strsD, zReq]) | (refine W_regPD fun K hK => ?_; simp [h2', strsD, zReq]) | (with_reducible refine hK _ ?_; clear hK K) | (with_reducible refine callQ (cn) ?_; simp [h2', strsD, zReq]) | (with_reducible refine callQ (cf) ?_; simp [h2', strsD, zReq]) | (with_reducible refine goL_split (fun h => ?_) (fun h => ?_) <;> first | (exfalso; simp at h; done) | (exfalso; simp at h; omega) | (exfalso; simp at h; contradiction) | ((try simp at h); simp [h2', strsD, zReq])) | with_reducible refine And.intro ?_ ?_ | with_reducible exact okay_rfl rfl | with_reducible assumption | (refine W_cond rfl (fun h => ?_) (fun h => ?_) <;> first | (exfalso; simp at h; done) | (exfalso; simp at h; omega) | (exfalso; simp at h; contradiction) | (exfalso; simp_all; done) | (try simp at h)) | (refine W_ret ?_; simp [Fin, h2', strsD, zReq]) | omega)
  refine W_loop (fun n st => ∃ k : Nat, n = Fm.length - k ∧ k ≤ Fm.length ∧ (∀ p, p ∈ Vb.take k → matchV (a :: b :: args) p = false) ∧
    st = ⟨[], [(2, .ptr 0 0), (4, .ptr 1 0), (5, .sl 2), (11, .d (.int .i64 t)), (13, .sl 3), (14, .d (.int .i64 k))], [(0, .box (zReq.row.map A.d)), (1, .box (zReq.row.map A.d)), (2, .arr 0 0 1 (strsD (a :: b :: args))), (3, .arr 0 0 1 (strsD Fm))], 4⟩) _ ⟨0, rfl, by omega, fun w h => by simp at h, rfl⟩ ?_
  rintro n st ⟨k, rfl, hk, hn, rfl⟩
  by_cases hlt : k < Fm.length
  · obtain ⟨f, ⟨v, g⟩, hf, hv, hcut, hfl, hgl, hg0⟩ := hFV ⟨k, by omega⟩
    simp only at hf hv hcut hgl hg0
    have cv := s_l19Verb_ok (GG := GG) f v g hcut (by omega)
    have hw1 : IntKind.i64.wrap (2 + (g.length : Int)) = 2 + (g.length : Int) := wrap_id (by omega) (by omega)
    have hwk : IntKind.i64.wrap ((k : Int) + 1) = (k : Int) + 1 := wrap_id (by omega) (by omega)
    by_cases hbv : b = v
    · subst hbv
      by_cases hlen : args.length = g.length
      · have hm : matchV (a :: b :: args) (b, g) = true := by simp [matchV, hlen]; omega
        have hfi : Vb.findIdx? (matchV (a :: b :: args)) = some k := findIdx_hit hv hn hm
        rw [hfi] at hR
        simp only [hv, List.drop_succ_cons, List.drop_zero] at hR
        repeat' (first | refine W_seq ?_ | refine W_skip ?_ | refine W_block ?_ | (refine W_exit ?_; first | refine pick_pos rfl ?_ | (refine pick_neg rfl ?_; first | refine pick_pos rfl ?_ | (refine pick_neg rfl ?_; refine pick_pos rfl ?_))) | (refine W_regP fun K hK => ?_; simp [h2', strsD, zReq, hf, hw1, hlen]) | (refine W_regPD fun K hK => ?_; simp [h2', strsD, zReq, hf, hw1, hlen]) | (with_reducible refine hK _ ?_; clear hK K) | (with_reducible refine callQ (cv) ?_; simp [h2', strsD, zReq, hf, hw1, hlen]) | (with_reducible refine goL_split (fun h => ?_) (fun h => ?_) <;> first | (exfalso; simp at h; done) | (exfalso; simp at h; omega) | (exfalso; simp at h; contradiction) | ((try simp at h); simp [h2', strsD, zReq, hf, hw1, hlen])) | with_reducible refine And.intro ?_ ?_ | with_reducible exact okay_rfl rfl | with_reducible assumption | (refine W_cond rfl (fun h => ?_) (fun h => ?_) <;> first | (exfalso; simp at h; done) | (exfalso; simp at h; omega) | (exfalso; simp at h; contradiction) | (exfalso; simp_all; done) | (try simp at h)) | (refine W_ret ?_; simp [Fin, h2', strsD, zReq, hf, hw1, hlen]) | omega)
        refine W_loop (fun n st => ∃ (i : Nat) (r : GReq), n = g.length - i ∧ i ≤ g.length ∧ foldS ⟨k, t, [], [], [], 0⟩ g args = foldS r (g.drop i) (args.drop i) ∧
          st = ⟨[], [(2, .ptr 0 0), (4, .ptr 1 0), (5, .sl 2), (14, .d (.int .i64 k)), (16, .d (.str g)), (17, .ptr 3 0), (18, .d (.int .i64 i))], [(0, .box (zReq.row.map A.d)), (1, .box (zReq.row.map A.d)), (2, .arr 0 0 1 (strsD (a :: b :: args))), (3, .box (r.row.map A.d))], 4⟩) _ ⟨0, ⟨k, t, [], [], [], 0⟩, rfl, by omega, rfl, rfl⟩ ?_
        rintro n st ⟨i, r, rfl, hi, hinv, rfl⟩
        have hwi : IntKind.i64.wrap (2 + (i : Int)) = 2 + (i : Int) := wrap_id (by omega) (by omega)
        have hwj : IntKind.i64.wrap ((i : Int) + 1) = (i : Int) + 1 := wrap_id (by omega) (by omega)
        have htn : (2 + (i : Int)).toNat = i + 2 := by omega
        by_cases hil : i < g.length
        · have hw := List.getElem?_eq_getElem (show i < args.length by omega)
          generalize args[i]'_ = w at hw
          have hc := List.getElem?_eq_getElem hil
          generalize g[i]'_ = c at hc
          have hwl := hcm w (by simp [List.mem_of_getElem? hw])
          have cw := s_l19Number_ok (GG := GG) w (by omega)
          have hfd := foldS_drop2 (r := r) hc hw
          have hla : i + 2 < args.length + 1 + 1 := by omega
          rcases stepS_cases c r w with ⟨rfl, hnw, hs⟩ | ⟨r', hs, ⟨rfl, m, hnw, rfl⟩ | ⟨hn1, hcs⟩⟩
          · rw [hnw] at cw
            rw [hinv, hfd, hs] at hR
            simp only [endS] at hR
            subst hR
            repeat' (first | refine W_seq ?_ | refine W_skip ?_ | refine W_block ?_ | (refine W_exit ?_; first | refine pick_pos rfl ?_ | (refine pick_neg rfl ?_; first | refine pick_pos rfl ?_ | (refine pick_neg rfl ?_; refine pick_pos rfl ?_))) | (refine W_regP fun K hK => ?_; simp [strsD, zReq, hwi, htn, hw, hc]) | (refine W_regPD fun K hK => ?_; simp [strsD, zReq, hwi, htn, hw, hc]) | (with_reducible refine hK _ ?_; clear hK K) | (with_reducible refine callQ (cw) ?_; simp [strsD, zReq, hwi, htn, hw, hc]) | (with_reducible refine goL_split (fun h => ?_) (fun h => ?_) <;> first | (exfalso; simp at h; done) | (exfalso; simp at h; omega) | (exfalso; simp at h; contradiction) | ((try simp at h); simp [strsD, zReq, hwi, htn, hw, hc])) | with_reducible refine And.intro ?_ ?_ | with_reducible exact okay_rfl rfl | with_reducible assumption | (refine W_cond rfl (fun h => ?_) (fun h => ?_) <;> first | (exfalso; simp at h; done) | (exfalso; simp at h; omega) | (exfalso; simp at h; contradiction) | (exfalso; simp_all; done) | (try simp at h)) | (refine W_ret ?_; simp [Fin, strsD, zReq, hwi, htn, hw, hc]) | omega)
          · rw [hnw] at cw
            rw [num_same m hnw] at cw
            rw [hs] at hfd
            repeat' (first | refine W_seq ?_ | refine W_skip ?_ | refine W_block ?_ | (refine W_exit ?_; first | refine pick_pos rfl ?_ | (refine pick_neg rfl ?_; first | refine pick_pos rfl ?_ | (refine pick_neg rfl ?_; refine pick_pos rfl ?_))) | (refine W_regP fun K hK => ?_; simp [strsD, zReq, hwi, htn, hw, hc]) | (refine W_regPD fun K hK => ?_; simp [strsD, zReq, hwi, htn, hw, hc]) | (with_reducible refine hK _ ?_; clear hK K) | (with_reducible refine callQ (cw) ?_; simp [strsD, zReq, hwi, htn, hw, hc]) | (with_reducible refine goL_split (fun h => ?_) (fun h => ?_) <;> first | (exfalso; simp at h; done) | (exfalso; simp at h; omega) | (exfalso; simp at h; contradiction) | ((try simp at h); simp [strsD, zReq, hwi, htn, hw, hc])) | with_reducible refine And.intro ?_ ?_ | with_reducible exact okay_rfl rfl | with_reducible assumption | (refine W_cond rfl (fun h => ?_) (fun h => ?_) <;> first | (exfalso; simp at h; done) | (exfalso; simp at h; omega) | (exfalso; simp at h; contradiction) | (exfalso; simp_all; done) | (try simp at h)) | (refine W_ret ?_; simp [Fin, strsD, zReq, hwi, htn, hw, hc]) | omega)
            refine ⟨g.length - (i + 1), by omega, i + 1, _, rfl, hil, hinv.trans hfd, ?_⟩
            simp [gc, closeN, liveA, gcV, gcO, renA, renAs, renO, namesAs, namesA, namesO, posn, zReq, strsD]
            exact hwj
          · rw [hs] at hfd
            clear cw
            rcases hcs with ⟨rfl, rfl⟩ | ⟨rfl, rfl⟩ | ⟨rfl, rfl, rfl⟩ | ⟨rfl, hd, rfl⟩ | ⟨rfl, rfl, rfl⟩ | ⟨rfl, hd, rfl⟩ | ⟨hn2, hn3, hn4, hn5, rfl⟩
            all_goals
              repeat' (first | refine W_seq ?_ | refine W_skip ?_ | refine W_block ?_ | (refine W_exit ?_; first | refine pick_pos rfl ?_ | (refine pick_neg rfl ?_; first | refine pick_pos rfl ?_ | (refine pick_neg rfl ?_; refine pick_pos rfl ?_))) | (refine W_regP fun K hK => ?_; simp [strsD, zReq, hwi, htn, hw, hc]) | (refine W_regPD fun K hK => ?_; simp [strsD, zReq, hwi, htn, hw, hc]) | (with_reducible refine hK _ ?_; clear hK K) | (with_reducible refine goL_split (fun h => ?_) (fun h => ?_) <;> first | (exfalso; simp at h; done) | (exfalso; simp at h; omega) | (exfalso; simp at h; contradiction) | ((try simp at h); simp [strsD, zReq, hwi, htn, hw, hc])) | with_reducible refine And.intro ?_ ?_ | with_reducible exact okay_rfl rfl | with_reducible assumption | (refine W_cond rfl (fun h => ?_) (fun h => ?_) <;> first | (exfalso; simp at h; done) | (exfalso; simp at h; omega) | (exfalso; simp at h; contradiction) | (exfalso; simp_all; done) | (try simp at h)) | (refine W_ret ?_; simp [Fin, strsD, zReq, hwi, htn, hw, hc]) | omega)
              refine ⟨g.length - (i + 1), by omega, i + 1, _, rfl, hil, hinv.trans hfd, ?_⟩
              simp [gc, closeN, liveA, gcV, gcO, renA, renAs, renO, namesAs, namesA, namesO, posn, zReq, strsD]
              exact hwj
        · have hie : i = g.length := by omega
          subst hie
          have hfd : foldS ⟨k, t, [], [], [], 0⟩ g args = some r := by
            rw [hinv, List.drop_of_length_le (Nat.le_refl _), List.drop_of_length_le (by omega)]; rfl
          rw [hfd] at hR
          simp only [endS] at hR
          by_cases hk0 : k = 0
          · subst hk0
            rw [if_pos rfl] at hR
            have hg2 := hg0 rfl
            obtain ⟨x, y, rfl⟩ : ∃ x y, args = [x, y] := by
              match args, (show args.length = 2 by omega) with
              | [x, y], _ => exact ⟨x, y, rfl⟩
            simp only [List.getD_cons_succ, List.getD_cons_zero] at hR
            have hyl := hcm y (by simp)
            have cr := s_l19Rules_ok (GG := GG) y (by omega)
            cases hru : rulW y with
            | none =>
              rw [hru] at cr hR
              simp only at hR
              subst hR
              repeat' (first | refine W_seq ?_ | refine W_skip ?_ | refine W_block ?_ | (refine W_exit ?_; first | refine pick_pos rfl ?_ | (refine pick_neg rfl ?_; first | refine pick_pos rfl ?_ | (refine pick_neg rfl ?_; refine pick_pos rfl ?_))) | (refine W_regP fun K hK => ?_; simp [strsD, zReq]) | (refine W_regPD fun K hK => ?_; simp [strsD, zReq]) | (with_reducible refine hK _ ?_; clear hK K) | (with_reducible refine callQ (cr) ?_; simp [strsD, zReq]) | (with_reducible refine goL_split (fun h => ?_) (fun h => ?_) <;> first | (exfalso; simp at h; done) | (exfalso; simp at h; omega) | (exfalso; simp at h; contradiction) | ((try simp at h); simp [strsD, zReq])) | with_reducible refine And.intro ?_ ?_ | with_reducible exact okay_rfl rfl | with_reducible assumption | (refine W_cond rfl (fun h => ?_) (fun h => ?_) <;> first | (exfalso; simp at h; done) | (exfalso; simp at h; omega) | (exfalso; simp at h; contradiction) | (exfalso; simp_all; done) | (try simp at h)) | (refine W_ret ?_; simp [Fin, strsD, zReq]) | omega)
            | some d =>
              rw [hru] at cr hR
              simp only at hR
              subst hR
              repeat' (first | refine W_seq ?_ | refine W_skip ?_ | refine W_block ?_ | (refine W_exit ?_; first | refine pick_pos rfl ?_ | (refine pick_neg rfl ?_; first | refine pick_pos rfl ?_ | (refine pick_neg rfl ?_; refine pick_pos rfl ?_))) | (refine W_regP fun K hK => ?_; simp [strsD, zReq]) | (refine W_regPD fun K hK => ?_; simp [strsD, zReq]) | (with_reducible refine hK _ ?_; clear hK K) | (with_reducible refine callQ (cr) ?_; simp [strsD, zReq]) | (with_reducible refine goL_split (fun h => ?_) (fun h => ?_) <;> first | (exfalso; simp at h; done) | (exfalso; simp at h; omega) | (exfalso; simp at h; contradiction) | ((try simp at h); simp [strsD, zReq])) | with_reducible refine And.intro ?_ ?_ | with_reducible exact okay_rfl rfl | with_reducible assumption | (refine W_cond rfl (fun h => ?_) (fun h => ?_) <;> first | (exfalso; simp at h; done) | (exfalso; simp at h; omega) | (exfalso; simp at h; contradiction) | (exfalso; simp_all; done) | (try simp at h)) | (refine W_ret ?_; simp [Fin, strsD, zReq]) | omega)
          · rw [if_neg hk0] at hR
            subst hR
            repeat' (first | refine W_seq ?_ | refine W_skip ?_ | refine W_block ?_ | (refine W_exit ?_; first | refine pick_pos rfl ?_ | (refine pick_neg rfl ?_; first | refine pick_pos rfl ?_ | (refine pick_neg rfl ?_; refine pick_pos rfl ?_))) | (refine W_regP fun K hK => ?_; simp [strsD, zReq, hk0]) | (refine W_regPD fun K hK => ?_; simp [strsD, zReq, hk0]) | (with_reducible refine hK _ ?_; clear hK K) | (with_reducible refine goL_split (fun h => ?_) (fun h => ?_) <;> first | (exfalso; simp at h; done) | (exfalso; simp at h; omega) | (exfalso; simp at h; contradiction) | ((try simp at h); simp [strsD, zReq, hk0])) | with_reducible refine And.intro ?_ ?_ | with_reducible exact okay_rfl rfl | with_reducible assumption | (refine W_cond rfl (fun h => ?_) (fun h => ?_) <;> first | (exfalso; simp at h; done) | (exfalso; simp at h; omega) | (exfalso; simp at h; contradiction) | (exfalso; simp_all; done) | (try simp at h)) | (refine W_ret ?_; simp [Fin, strsD, zReq, hk0]) | omega)
      · have hne2 : ((args.length : Int) + 1 + 1 != 2 + (g.length : Int)) = true := by simp; omega
        repeat' (first | refine W_seq ?_ | refine W_skip ?_ | refine W_block ?_ | (refine W_exit ?_; first | refine pick_pos rfl ?_ | (refine pick_neg rfl ?_; first | refine pick_pos rfl ?_ | (refine pick_neg rfl ?_; refine pick_pos rfl ?_))) | (refine W_regP fun K hK => ?_; simp [h2', strsD, zReq, hf, hw1, hne2]) | (refine W_regPD fun K hK => ?_; simp [h2', strsD, zReq, hf, hw1, hne2]) | (with_reducible refine hK _ ?_; clear hK K) | (with_reducible refine callQ (cv) ?_; simp [h2', strsD, zReq, hf, hw1, hne2]) | (with_reducible refine goL_split (fun h => ?_) (fun h => ?_) <;> first | (exfalso; simp at h; done) | (exfalso; simp at h; omega) | (exfalso; simp at h; contradiction) | ((try simp at h); simp [h2', strsD, zReq, hf, hw1, hne2])) | with_reducible refine And.intro ?_ ?_ | with_reducible exact okay_rfl rfl | with_reducible assumption | (refine W_cond rfl (fun h => ?_) (fun h => ?_) <;> first | (exfalso; simp at h; done) | (exfalso; simp at h; omega) | (exfalso; simp at h; contradiction) | (exfalso; simp_all; done) | (try simp at h)) | (refine W_ret ?_; simp [Fin, h2', strsD, zReq, hf, hw1, hne2]) | omega)
        refine ⟨Fm.length - (k + 1), by omega, k + 1, rfl, hlt, take_all hv hn (by simp [matchV]; omega), ?_⟩
        simp [gc, closeN, liveA, gcV, gcO, renA, renAs, renO, namesAs, namesA, namesO, posn, zReq, strsD]
        exact hwk
    · have hbn : (b != v) = true := by simpa using hbv
      repeat' (first | refine W_seq ?_ | refine W_skip ?_ | refine W_block ?_ | (refine W_exit ?_; first | refine pick_pos rfl ?_ | (refine pick_neg rfl ?_; first | refine pick_pos rfl ?_ | (refine pick_neg rfl ?_; refine pick_pos rfl ?_))) | (refine W_regP fun K hK => ?_; simp [h2', strsD, zReq, hf, hw1, hbn]) | (refine W_regPD fun K hK => ?_; simp [h2', strsD, zReq, hf, hw1, hbn]) | (with_reducible refine hK _ ?_; clear hK K) | (with_reducible refine callQ (cv) ?_; simp [h2', strsD, zReq, hf, hw1, hbn]) | (with_reducible refine goL_split (fun h => ?_) (fun h => ?_) <;> first | (exfalso; simp at h; done) | (exfalso; simp at h; omega) | (exfalso; simp at h; contradiction) | ((try simp at h); simp [h2', strsD, zReq, hf, hw1, hbn])) | with_reducible refine And.intro ?_ ?_ | with_reducible exact okay_rfl rfl | with_reducible assumption | (refine W_cond rfl (fun h => ?_) (fun h => ?_) <;> first | (exfalso; simp at h; done) | (exfalso; simp at h; omega) | (exfalso; simp at h; contradiction) | (exfalso; simp_all; done) | (try simp at h)) | (refine W_ret ?_; simp [Fin, h2', strsD, zReq, hf, hw1, hbn]) | omega)
      refine ⟨Fm.length - (k + 1), by omega, k + 1, rfl, hlt, take_all hv hn (by simp [matchV, hbv]), ?_⟩
      simp [gc, closeN, liveA, gcV, gcO, renA, renAs, renO, namesAs, namesA, namesO, posn, zReq, strsD]
      exact hwk
  · have hfi : Vb.findIdx? (matchV (a :: b :: args)) = none := by
      rw [List.take_of_length_le (by omega)] at hn
      exact findIdx_miss hn
    rw [hfi] at hR
    simp only at hR
    subst hR
    repeat' (first | refine W_seq ?_ | refine W_skip ?_ | refine W_block ?_ | (refine W_exit ?_; first | refine pick_pos rfl ?_ | (refine pick_neg rfl ?_; first | refine pick_pos rfl ?_ | (refine pick_neg rfl ?_; refine pick_pos rfl ?_))) | (refine W_regP fun K hK => ?_; simp [zReq]) | (refine W_regPD fun K hK => ?_; simp [zReq]) | (with_reducible refine hK _ ?_; clear hK K) | (with_reducible refine goL_split (fun h => ?_) (fun h => ?_) <;> first | (exfalso; simp at h; done) | (exfalso; simp at h; omega) | (exfalso; simp at h; contradiction) | ((try simp at h); simp [zReq])) | with_reducible refine And.intro ?_ ?_ | with_reducible exact okay_rfl rfl | with_reducible assumption | (refine W_cond rfl (fun h => ?_) (fun h => ?_) <;> first | (exfalso; simp at h; done) | (exfalso; simp at h; omega) | (exfalso; simp at h; contradiction) | (exfalso; simp_all; done) | (try simp at h)) | (refine W_ret ?_; simp [Fin, zReq]) | omega)

end Go.Proofs.YtpboimnecoakiaaDoor.Ab

