/-
  A part of a proof about the given program; what is proved is said where each theorem stands.
-/
import Derived.Test.YtgoknpcippfjbaaDoorFrameA
import Derived.Test.YtgoknpcippfjbaaDoorFrameB
import Derived.Test.YtgoknpcippfjbaaDoorFrameC
import Derived.Test.YtgoknpcippfjbaaDoorFrameD
import Derived.Test.YtgoknpcippfjbaaDoorFrameE
import Derived.Test.YtgoknpcippfjbaaDoorShelf
import Derived.Test.YtgoknpcippfjbaaDoorCodesA
import Derived.Test.YtgoknpcippfjbaaDoorCodesB
import Derived.Test.YtgoknpcippfjbaaDoorPartA
namespace Go.Proofs
end Go.Proofs
set_option linter.unusedSimpArgs false
set_option linter.unusedVariables false
set_option maxRecDepth 100000
set_option maxHeartbeats 2000000
namespace Go.Proofs.YtgoknpcippfjbaaDoor.Ab
open Go.Proofs
variable {GG : GV}
theorem take_ok [P10 GG] [ESyn GG] [ERng GG] [MaxL GG] (v rest w : List UInt8) (kind : Int) (tok : Bool) (r : GReq) (i : Nat) (c : UInt8) (hi : rest[i]? = some c) (hw : w.length ≤ 1048576) (hr : rest.length ≤ 1048576) :
    ∃ r' : GReq, (∀ q, takeW kind c r w = some q → r' = q) ∧ Valid PP GG F_I_deskForm_take [.agg [.d (.str v), .d (.int .i64 kind), .d (.bool tok), .d (.str rest)], .box r.c, .d (.int .i64 i), .d (.str w)] (.d (.bool (takeW kind c r w).isSome)) [none, some (.box r'.c), none, none] := by
  have cn := deskNumber_ok (GG := GG) w (by omega)
  have cw := isDeskWord_ok (GG := GG) w (by omega)
  have cp := policyData_ok (GG := GG) w (by omega)
  have hil := (List.getElem?_eq_some_iff.1 hi).1
  unfold takeW
  by_cases h1 : c = 110
  · subst h1
    rw [if_pos rfl]
    cases hn : numW w with
    | none =>
      rw [hn] at cn
      dsimp only
      refine ⟨{ r with fNum := 0 }, fun q h => (by cases h), v_I_deskForm_take [.d (.bool false)] rfl rfl ?_⟩
      repeat' (first | refine W_seq ?_ | refine W_skip ?_ | refine W_block ?_ | refine W_exit ?_ | refine pick_pos rfl ?_ | refine pick_neg rfl ?_ | ((first | refine W_regP fun K hK => ?_ | refine W_regPD fun K hK => ?_ | refine W_ret ?_ | with_reducible refine callQ (cn) ?_); simp [Fin, hi]) | (with_reducible refine hK _ ?_; clear hK K) | (with_reducible refine goL_split (fun h => ?_) (fun h => ?_) <;> first | (exfalso; simp at h; first | done | omega | contradiction) | ((try simp at h); simp [hi])) | with_reducible refine And.intro ?_ ?_ | with_reducible exact okay_rfl rfl | with_reducible assumption | (refine W_cond rfl (fun h => ?_) (fun h => ?_) <;> first | (exfalso; simp at h; first | done | omega | contradiction) | (exfalso; simp_all; done) | (try simp at h)) | omega)
    | some n =>
      rw [hn] at cn
      dsimp only
      refine ⟨{ r with fNum := n }, fun q h => by simpa using h, v_I_deskForm_take [.d (.bool true)] rfl rfl ?_⟩
      repeat' (first | refine W_seq ?_ | refine W_skip ?_ | refine W_block ?_ | refine W_exit ?_ | refine pick_pos rfl ?_ | refine pick_neg rfl ?_ | ((first | refine W_regP fun K hK => ?_ | refine W_regPD fun K hK => ?_ | refine W_ret ?_ | with_reducible refine callQ (cn) ?_); simp [Fin, hi]) | (with_reducible refine hK _ ?_; clear hK K) | (with_reducible refine goL_split (fun h => ?_) (fun h => ?_) <;> first | (exfalso; simp at h; first | done | omega | contradiction) | ((try simp at h); simp [hi])) | with_reducible refine And.intro ?_ ?_ | with_reducible exact okay_rfl rfl | with_reducible assumption | (refine W_cond rfl (fun h => ?_) (fun h => ?_) <;> first | (exfalso; simp at h; first | done | omega | contradiction) | (exfalso; simp_all; done) | (try simp at h)) | omega)
  have n1 : ¬ c.toNat = 110 := u8_ne h1
  rw [if_neg h1]
  cases hb : wordB w with
  | false =>
    rw [hb] at cw
    refine ⟨r, fun q h => by simp at h, v_I_deskForm_take [.d (.bool false)] rfl rfl ?_⟩
    repeat' (first | refine W_seq ?_ | refine W_skip ?_ | refine W_block ?_ | refine W_exit ?_ | refine pick_pos rfl ?_ | refine pick_neg rfl ?_ | ((first | refine W_regP fun K hK => ?_ | refine W_regPD fun K hK => ?_ | refine W_ret ?_ | with_reducible refine callQ (cw) ?_); simp [Fin, hi]) | (with_reducible refine hK _ ?_; clear hK K) | (with_reducible refine goL_split (fun h => ?_) (fun h => ?_) <;> first | (exfalso; simp at h; first | done | omega | contradiction) | ((try simp at h); simp [hi])) | with_reducible refine And.intro ?_ ?_ | with_reducible exact okay_rfl rfl | with_reducible assumption | (refine W_cond rfl (fun h => ?_) (fun h => ?_) <;> first | (exfalso; simp at h; first | done | omega | contradiction) | (exfalso; simp_all; done) | (try simp at h)) | omega)
  | true =>
  rw [hb] at cw
  rw [if_neg (by simp)]
  by_cases h2 : c = 112
  · subst h2
    rw [if_pos rfl]
    refine ⟨{ r with fPath := w }, fun q h => by simpa using h, v_I_deskForm_take [.d (.bool true)] rfl rfl ?_⟩
    repeat' (first | refine W_seq ?_ | refine W_skip ?_ | refine W_block ?_ | refine W_exit ?_ | refine pick_pos rfl ?_ | refine pick_neg rfl ?_ | ((first | refine W_regP fun K hK => ?_ | refine W_regPD fun K hK => ?_ | refine W_ret ?_ | with_reducible refine callQ (cw) ?_); simp [Fin, hi]) | (with_reducible refine hK _ ?_; clear hK K) | (with_reducible refine goL_split (fun h => ?_) (fun h => ?_) <;> first | (exfalso; simp at h; first | done | omega | contradiction) | ((try simp at h); simp [hi])) | with_reducible refine And.intro ?_ ?_ | with_reducible exact okay_rfl rfl | with_reducible assumption | (refine W_cond rfl (fun h => ?_) (fun h => ?_) <;> first | (exfalso; simp at h; first | done | omega | contradiction) | (exfalso; simp_all; done) | (try simp at h)) | omega)
  have n2 : ¬ c.toNat = 112 := u8_ne h2
  rw [if_neg h2]
  by_cases h3 : c = 109
  · subst h3
    rw [if_pos rfl]
    refine ⟨{ r with fName := w }, fun q h => by simpa using h, v_I_deskForm_take [.d (.bool true)] rfl rfl ?_⟩
    repeat' (first | refine W_seq ?_ | refine W_skip ?_ | refine W_block ?_ | refine W_exit ?_ | refine pick_pos rfl ?_ | refine pick_neg rfl ?_ | ((first | refine W_regP fun K hK => ?_ | refine W_regPD fun K hK => ?_ | refine W_ret ?_ | with_reducible refine callQ (cw) ?_); simp [Fin, hi]) | (with_reducible refine hK _ ?_; clear hK K) | (with_reducible refine goL_split (fun h => ?_) (fun h => ?_) <;> first | (exfalso; simp at h; first | done | omega | contradiction) | ((try simp at h); simp [hi])) | with_reducible refine And.intro ?_ ?_ | with_reducible exact okay_rfl rfl | with_reducible assumption | (refine W_cond rfl (fun h => ?_) (fun h => ?_) <;> first | (exfalso; simp at h; first | done | omega | contradiction) | (exfalso; simp_all; done) | (try simp at h)) | omega)
  have n3 : ¬ c.toNat = 109 := u8_ne h3
  rw [if_neg h3]
  by_cases h4 : w = [46]
  · subst h4
    rw [if_pos rfl]
    refine ⟨r, fun q h => by simpa using h, v_I_deskForm_take [.d (.bool true)] rfl rfl ?_⟩
    repeat' (first | refine W_seq ?_ | refine W_skip ?_ | refine W_block ?_ | refine W_exit ?_ | refine pick_pos rfl ?_ | refine pick_neg rfl ?_ | ((first | refine W_regP fun K hK => ?_ | refine W_regPD fun K hK => ?_ | refine W_ret ?_ | with_reducible refine callQ (cw) ?_); simp [Fin, hi]) | (with_reducible refine hK _ ?_; clear hK K) | (with_reducible refine goL_split (fun h => ?_) (fun h => ?_) <;> first | (exfalso; simp at h; first | done | omega | contradiction) | ((try simp at h); simp [hi])) | with_reducible refine And.intro ?_ ?_ | with_reducible exact okay_rfl rfl | with_reducible assumption | (refine W_cond rfl (fun h => ?_) (fun h => ?_) <;> first | (exfalso; simp at h; first | done | omega | contradiction) | (exfalso; simp_all; done) | (try simp at h)) | omega)
  have n4 : (w == [46]) = false := by simpa using h4
  rw [if_neg h4]
  by_cases h5 : c = 113
  · subst h5
    rw [if_pos rfl]
    refine ⟨{ r with fPath := w }, fun q h => by simpa using h, v_I_deskForm_take [.d (.bool true)] rfl rfl ?_⟩
    repeat' (first | refine W_seq ?_ | refine W_skip ?_ | refine W_block ?_ | refine W_exit ?_ | refine pick_pos rfl ?_ | refine pick_neg rfl ?_ | ((first | refine W_regP fun K hK => ?_ | refine W_regPD fun K hK => ?_ | refine W_ret ?_ | with_reducible refine callQ (cw) ?_); simp [Fin, hi, n4]) | (with_reducible refine hK _ ?_; clear hK K) | (with_reducible refine goL_split (fun h => ?_) (fun h => ?_) <;> first | (exfalso; simp at h; first | done | omega | contradiction) | ((try simp at h); simp [hi, n4])) | with_reducible refine And.intro ?_ ?_ | with_reducible exact okay_rfl rfl | with_reducible assumption | (refine W_cond rfl (fun h => ?_) (fun h => ?_) <;> first | (exfalso; simp at h; first | done | omega | contradiction) | (exfalso; simp_all; done) | (try simp at h)) | omega)
  have n5 : ¬ c.toNat = 113 := u8_ne h5
  rw [if_neg h5]
  by_cases h6 : kind = 0
  · subst h6
    rw [if_pos rfl]
    cases hp : polP (cutAt 59 w) with
    | none =>
      rw [hp] at cp
      dsimp only
      refine ⟨{ r with fData := [] }, fun q h => (by cases h), v_I_deskForm_take [.d (.bool false)] rfl rfl ?_⟩
      repeat' (first | refine W_seq ?_ | refine W_skip ?_ | refine W_block ?_ | refine W_exit ?_ | refine pick_pos rfl ?_ | refine pick_neg rfl ?_ | ((first | refine W_regP fun K hK => ?_ | refine W_regPD fun K hK => ?_ | refine W_ret ?_ | with_reducible refine callQ (cw) ?_ | with_reducible refine callQ (cp) ?_); simp [Fin, hi, n4]) | (with_reducible refine hK _ ?_; clear hK K) | (with_reducible refine goL_split (fun h => ?_) (fun h => ?_) <;> first | (exfalso; simp at h; first | done | omega | contradiction) | ((try simp at h); simp [hi, n4])) | with_reducible refine And.intro ?_ ?_ | with_reducible exact okay_rfl rfl | with_reducible assumption | (refine W_cond rfl (fun h => ?_) (fun h => ?_) <;> first | (exfalso; simp at h; first | done | omega | contradiction) | (exfalso; simp_all; done) | (try simp at h)) | omega)
    | some d =>
      rw [hp] at cp
      dsimp only
      refine ⟨{ r with fData := d }, fun q h => by simpa using h, v_I_deskForm_take [.d (.bool true)] rfl rfl ?_⟩
      repeat' (first | refine W_seq ?_ | refine W_skip ?_ | refine W_block ?_ | refine W_exit ?_ | refine pick_pos rfl ?_ | refine pick_neg rfl ?_ | ((first | refine W_regP fun K hK => ?_ | refine W_regPD fun K hK => ?_ | refine W_ret ?_ | with_reducible refine callQ (cw) ?_ | with_reducible refine callQ (cp) ?_); simp [Fin, hi, n4]) | (with_reducible refine hK _ ?_; clear hK K) | (with_reducible refine goL_split (fun h => ?_) (fun h => ?_) <;> first | (exfalso; simp at h; first | done | omega | contradiction) | ((try simp at h); simp [hi, n4])) | with_reducible refine And.intro ?_ ?_ | with_reducible exact okay_rfl rfl | with_reducible assumption | (refine W_cond rfl (fun h => ?_) (fun h => ?_) <;> first | (exfalso; simp at h; first | done | omega | contradiction) | (exfalso; simp_all; done) | (try simp at h)) | omega)
  · rw [if_neg h6]
    refine ⟨{ r with fData := w }, fun q h => by simpa using h, v_I_deskForm_take [.d (.bool true)] rfl rfl ?_⟩
    repeat' (first | refine W_seq ?_ | refine W_skip ?_ | refine W_block ?_ | refine W_exit ?_ | refine pick_pos rfl ?_ | refine pick_neg rfl ?_ | ((first | refine W_regP fun K hK => ?_ | refine W_regPD fun K hK => ?_ | refine W_ret ?_ | with_reducible refine callQ (cw) ?_); simp [Fin, hi, n4]) | (with_reducible refine hK _ ?_; clear hK K) | (with_reducible refine goL_split (fun h => ?_) (fun h => ?_) <;> first | (exfalso; simp at h; first | done | omega | contradiction) | ((try simp at h); simp [hi, n4])) | with_reducible refine And.intro ?_ ?_ | with_reducible exact okay_rfl rfl | with_reducible assumption | (refine W_cond rfl (fun h => ?_) (fun h => ?_) <;> first | (exfalso; simp at h; first | done | omega | contradiction) | (exfalso; simp_all; done) | (try simp at h)) | omega)

structure Form where
  word : List UInt8
  kind : Int
  tok : Bool
  rest : List UInt8
  deriving DecidableEq

def Form.row (f : Form) : List D := [.str f.word, .int .i64 f.kind, .bool f.tok, .str f.rest]

def formsL : List Form := [
  ⟨[112, 111, 108, 105, 99, 121], 0, true, [109, 100]⟩,
  ⟨[116, 111, 107, 101, 110], 1, true, [100, 110]⟩,
  ⟨[114, 101, 118, 111, 107, 101], 2, true, [110]⟩,
  ⟨[114, 101, 110, 101, 119], 3, true, [110]⟩,
  ⟨[112, 117, 116], 4, true, [112, 110, 100]⟩,
  ⟨[103, 101, 116], 5, true, [112, 110]⟩,
  ⟨[116, 97, 107, 101], 6, true, [112, 110]⟩,
  ⟨[108, 105, 115, 116], 7, true, [113]⟩,
  ⟨[114, 111, 108, 101], 8, true, [109, 100, 110]⟩,
  ⟨[99, 114, 101, 100, 115], 9, true, [109]⟩,
  ⟨[119, 114, 97, 112], 10, true, [112, 110]⟩,
  ⟨[111, 112, 101, 110], 11, false, [110]⟩,
  ⟨[116, 105, 109, 101], 12, false, [110]⟩,
  ⟨[102, 97, 114], 13, false, [110]⟩,
  ⟨[115, 121, 110, 99], 14, false, []⟩,
  ⟨[99, 114, 97, 115, 104], 15, false, [110]⟩]

def rForm (l : List Form) : List (List D) := l.map Form.row

@[simp] theorem rForm_len (l : List Form) : (rForm l).length = l.length := by simp [rForm]

@[simp] theorem rForm_get (l : List Form) (i : Nat) : (rForm l)[i]? = (l[i]?).map fun f => [.str f.word, .int .i64 f.kind, .bool f.tok, .str f.rest] := by simp [rForm]; rfl

def takeAll (k : Int) : GReq → List UInt8 → List (List UInt8) → Option GReq
  | r, c :: cs, w :: ws => match takeW k c r w with | some r' => takeAll k r' cs ws | none => none
  | r, _, _ => some r

def zReq : GReq := ⟨0, 0, [], [], [], 0⟩

def usOf (ws : List (List UInt8)) (t : Bool) : List (List UInt8) := if t = true then ws.drop 1 else ws

def matchF (us : List (List UInt8)) (t : Bool) (f : Form) : Bool := decide (us.length = f.rest.length + 1) && us.head? == some f.word && f.tok == t

def deskU (us : List (List UInt8)) (t : Option Int) : Option GReq := match formsL.find? (matchF us t.isSome) with
  | none => none
  | some f => takeAll f.kind ⟨f.kind, t.getD 0, [], [], [], 0⟩ f.rest (us.drop 1)

def deskW (line : List UInt8) : Option GReq := if 250 < line.length then none else
  let t := numW ((cutAt 32 line).headD [])
  deskU (usOf (cutAt 32 line) t.isSome) t

theorem find_hit2 {α : Type} {p : α → Bool} {l : List α} {i : Nat} {x : α} (ha : l[i]? = some x) (hn : ∀ y, y ∈ l.take i → p y = false) (hx : p x = true) : l.find? p = some x := by
  obtain ⟨h, e⟩ := List.getElem?_eq_some_iff.1 ha
  rw [List.find?_eq_some_iff_getElem]
  refine ⟨hx, i, h, e, fun j hj => ?_⟩
  have := hn l[j] (List.mem_take_iff_getElem.2 ⟨j, by omega, rfl⟩)
  simp [this]

theorem deskForms_ok : Valid PP GG F_I_deskForms [] (.own 0 4 (rForm formsL)) [] := by
  refine v_I_deskForms [.own 0 4 (rForm formsL)] rfl rfl ?_
  repeat' (first | refine W_seq ?_ | refine W_skip ?_ | refine W_block ?_ | refine W_exit ?_ | refine pick_pos rfl ?_ | refine pick_neg rfl ?_ | ((first | refine W_regP fun K hK => ?_ | refine W_regPD fun K hK => ?_ | refine W_ret ?_); simp [Fin, formsL, rForm, Form.row]) | (with_reducible refine hK _ ?_; clear hK K) | (with_reducible refine goL_split (fun h => ?_) (fun h => ?_) <;> first | (exfalso; simp at h; first | done | omega | contradiction) | ((try simp at h); simp [formsL, rForm, Form.row])) | with_reducible refine And.intro ?_ ?_ | with_reducible exact okay_rfl rfl | with_reducible assumption | (refine W_cond rfl (fun h => ?_) (fun h => ?_) <;> first | (exfalso; simp at h; first | done | omega | contradiction) | (exfalso; simp_all; done) | (try simp at h)) | omega)

theorem forms_small : formsL.length = 16 ∧ ∀ f, f ∈ formsL → f.rest.length ≤ 3 := by decide

theorem takeAll_drop {k : Int} {r : GReq} {cs : List UInt8} {ws : List (List UInt8)} {j : Nat} {c : UInt8} {w : List UInt8} (hc : cs[j]? = some c) (hw : ws[j]? = some w) :
    takeAll k r (cs.drop j) (ws.drop j) = match takeW k c r w with | some r' => takeAll k r' (cs.drop (j + 1)) (ws.drop (j + 1)) | none => none := by
  rw [drop_get hc, drop_get hw]; rfl

theorem parseReq_ok [P10 GG] [ESyn GG] [ERng GG] [MaxL GG] (line : List UInt8) (hline : line.length ≤ 1048576) : Valid PP GG F_I_parseReq [.d (.str line)] (.tup [.agg ((deskW line).getD zReq).o, .d (.bool (deskW line).isSome)]) [none] := by
  refine v_I_parseReq [.agg ((deskW line).getD zReq).o, .d (.bool (deskW line).isSome)] rfl rfl ?_
  unfold deskW
  by_cases hl : 250 < line.length
  · rw [if_pos hl]
    have hl2 : decide (250 < (line.length : Int)) = true := decide_eq_true (by omega)
    repeat' (first | refine W_seq ?_ | refine W_skip ?_ | refine W_block ?_ | refine W_exit ?_ | refine pick_pos rfl ?_ | refine pick_neg rfl ?_ | ((first | refine W_regP fun K hK => ?_ | refine W_regPD fun K hK => ?_ | refine W_ret ?_); simp [Fin, hl2, zReq]) | (with_reducible refine hK _ ?_; clear hK K) | (with_reducible refine goL_split (fun h => ?_) (fun h => ?_) <;> first | (exfalso; simp at h; first | done | omega | contradiction) | ((try simp at h); simp [hl2, zReq])) | with_reducible refine And.intro ?_ ?_ | with_reducible exact okay_rfl rfl | with_reducible assumption | (refine W_cond rfl (fun h => ?_) (fun h => ?_) <;> first | (exfalso; simp at h; first | done | omega | contradiction) | (exfalso; simp_all; done) | (try simp at h)) | omega)
  rw [if_neg hl]
  dsimp only
  have cs := Split_ok (GG := GG) line 32 (by omega)
  have hcl := cutAt_len 32 line
  have hcm : ∀ p, p ∈ cutAt 32 line → p.length ≤ line.length := fun p => cutAt_mem line
  obtain ⟨p, ps, hps⟩ := cutAt_ne 32 line
  rw [hps] at cs hcl hcm ⊢
  have hpl := hcm p (by simp)
  have cn := deskNumber_ok (GG := GG) p (by omega)
  simp only [List.headD_cons]
  generalize numW p = t at cn ⊢
  obtain ⟨us, hus⟩ : ∃ us, usOf (p :: ps) t.isSome = us := ⟨_, rfl⟩
  rw [hus]
  have hum : ∀ q, q ∈ us → q.length ≤ line.length := by
    intro q hq
    rw [← hus] at hq
    unfold usOf at hq
    split at hq
    · exact hcm q (List.mem_of_mem_drop hq)
    · exact hcm q hq
  have hul : us.length ≤ 251 := by
    rw [← hus]; unfold usOf
    split
    · rw [List.length_drop]; omega
    · omega
  refine W_seq (?_)
  apply W_regS
  · intro K hK
    simp
    repeat' (first | with_reducible exact hK | (with_reducible refine goL_split (fun _ => ?_) (fun _ => ?_) <;> simp) | with_reducible refine And.intro ?_ ?_ | with_reducible exact okay_rfl rfl | with_reducible assumption | omega)
  refine W_seq (?_)
  refine W_seq (?_)
  apply W_regS
  · intro K hK
    simp
    repeat' (first | with_reducible exact hK | (with_reducible refine goL_split (fun _ => ?_) (fun _ => ?_) <;> simp) | with_reducible refine And.intro ?_ ?_ | with_reducible exact okay_rfl rfl | with_reducible assumption | omega)
  refine W_cond rfl (fun h => ?_) (fun h => W_skip ?_)
  · simp at h; omega
  refine W_seq (?_)
  apply W_regS
  · intro K hK
    simp
    repeat' (first | with_reducible exact hK | (with_reducible refine callQ (cs) ?_; simp) | (with_reducible refine goL_split (fun _ => ?_) (fun _ => ?_) <;> simp) | with_reducible refine And.intro ?_ ?_ | with_reducible exact okay_rfl rfl | with_reducible assumption | omega)
  refine W_seq (?_)
  apply W_regS
  · intro K hK
    simp [strsD]
    repeat' (first | with_reducible exact hK | (with_reducible refine callQ (cn) ?_; simp [strsD]) | (with_reducible refine goL_split (fun _ => ?_) (fun _ => ?_) <;> simp [strsD]) | with_reducible refine And.intro ?_ ?_ | with_reducible exact okay_rfl rfl | with_reducible assumption | omega)
  refine W_cut [2, 4, 5, 6] (fun st => st = ⟨[], [(2, .ptr 0 0), (4, .d (.slc 1 (strsD us))), (5, .d (.int .i64 (t.getD 0))), (6, .d (.bool t.isSome))], [(0, .box (zReq.row.map A.d))], 1⟩) ?_ ?_
  · cases t with
    | none =>
      simp [usOf] at hus
      subst hus
      repeat' (first | refine W_seq ?_ | refine W_skip ?_ | refine W_block ?_ | refine W_exit ?_ | refine pick_pos rfl ?_ | refine pick_neg rfl ?_ | ((first | refine W_regP fun K hK => ?_ | refine W_regPD fun K hK => ?_ | refine W_ret ?_); simp [Fin]) | (with_reducible refine hK _ ?_; clear hK K) | (with_reducible refine goL_split (fun h => ?_) (fun h => ?_) <;> first | (exfalso; simp at h; first | done | omega | contradiction) | ((try simp at h); simp)) | with_reducible refine And.intro ?_ ?_ | with_reducible exact okay_rfl rfl | with_reducible assumption | (refine W_cond rfl (fun h => ?_) (fun h => ?_) <;> first | (exfalso; simp at h; first | done | omega | contradiction) | (exfalso; simp_all; done) | (try simp at h)) | omega)
      simp [gc, closeN, liveA, gcV, gcO, renA, renAs, renO, namesAs, namesA, namesO, posn, zReq]
      rfl
    | some n =>
      simp [usOf] at hus
      repeat' (first | refine W_seq ?_ | refine W_skip ?_ | refine W_block ?_ | refine W_exit ?_ | refine pick_pos rfl ?_ | refine pick_neg rfl ?_ | ((first | refine W_regP fun K hK => ?_ | refine W_regPD fun K hK => ?_ | refine W_ret ?_); simp [Fin]) | (with_reducible refine hK _ ?_; clear hK K) | (with_reducible refine goL_split (fun h => ?_) (fun h => ?_) <;> first | (exfalso; simp at h; first | done | omega | contradiction) | ((try simp at h); simp)) | with_reducible refine And.intro ?_ ?_ | with_reducible exact okay_rfl rfl | with_reducible assumption | (refine W_cond rfl (fun h => ?_) (fun h => ?_) <;> first | (exfalso; simp at h; first | done | omega | contradiction) | (exfalso; simp_all; done) | (try simp at h)) | omega)
      simp [gc, closeN, liveA, gcV, gcO, renA, renAs, renO, namesAs, namesA, namesO, posn, hus, zReq]
      simp [strsD, hus]
  rintro st rfl
  clear cn cs hus
  have cf := deskForms_ok (GG := GG)
  unfold deskU
  obtain ⟨hfl, hfr⟩ := forms_small
  generalize formsL = L at cf hfl hfr ⊢
  generalize t.getD 0 = tn
  generalize t.isSome = tb
  repeat' (first | refine W_seq ?_ | refine W_skip ?_ | refine W_block ?_ | refine W_exit ?_ | refine pick_pos rfl ?_ | refine pick_neg rfl ?_ | ((first | refine W_regP fun K hK => ?_ | refine W_regPD fun K hK => ?_ | refine W_ret ?_ | with_reducible refine callQ (cf) ?_); simp [Fin, zReq]) | (with_reducible refine hK _ ?_; clear hK K) | (with_reducible refine goL_split (fun h => ?_) (fun h => ?_) <;> first | (exfalso; simp at h; first | done | omega | contradiction) | ((try simp at h); simp [zReq])) | with_reducible refine And.intro ?_ ?_ | with_reducible exact okay_rfl rfl | with_reducible assumption | (refine W_cond rfl (fun h => ?_) (fun h => ?_) <;> first | (exfalso; simp at h; first | done | omega | contradiction) | (exfalso; simp_all; done) | (try simp at h)) | omega)
  refine W_loop (fun n st => ∃ i : Nat, n = L.length - i ∧ i ≤ L.length ∧ (∀ f, f ∈ L.take i → matchF us tb f = false) ∧
    st = ⟨[], [(2, .ptr 0 0), (4, .d (.slc 1 (strsD us))), (5, .d (.int .i64 tn)), (6, .d (.bool tb)), (28, .sl 1), (29, .d (.int .i64 L.length)), (30, .d (.int .i64 i))], [(0, .box (zReq.row.map A.d)), (1, .arr 0 0 4 (rForm L))], 2⟩) _ ⟨0, rfl, by omega, fun f h => by simp at h, rfl⟩ ?_
  rintro n st ⟨i, rfl, hi, hn, rfl⟩
  by_cases hlt : i < L.length
  · have ha := List.getElem?_eq_getElem hlt
    generalize L[i] = f at ha
    have hr3 := hfr f (List.mem_of_getElem? ha)
    obtain ⟨v, kd, tk, rest⟩ := f
    simp only at hr3
    have hw1 : IntKind.i64.wrap ((rest.length : Int) + 1) = (rest.length : Int) + 1 := wrap_id (by omega) (by omega)
    by_cases hlen : us.length = rest.length + 1
    · cases us with
      | nil => simp at hlen
      | cons u us =>
      have hlen2 : us.length = rest.length := by simpa using hlen
      by_cases hu : u = v
      · subst hu
        by_cases ht : tk = tb
        · subst ht
          have hm : matchF (u :: us) tk ⟨u, kd, tk, rest⟩ = true := by simp [matchF, hlen]
          have hfind : L.find? (matchF (u :: us) tk) = some ⟨u, kd, tk, rest⟩ := find_hit2 ha hn hm
          rw [hfind]
          simp only [List.drop_succ_cons, List.drop_zero]
          repeat' (first | refine W_seq ?_ | refine W_skip ?_ | refine W_block ?_ | refine W_exit ?_ | refine pick_pos rfl ?_ | refine pick_neg rfl ?_ | ((first | refine W_regP fun K hK => ?_ | refine W_regPD fun K hK => ?_ | refine W_ret ?_); simp [Fin, ha, hw1, hlen2, strsD, zReq]) | (with_reducible refine hK _ ?_; clear hK K) | (with_reducible refine goL_split (fun h => ?_) (fun h => ?_) <;> first | (exfalso; simp at h; first | done | omega | contradiction) | ((try simp at h); simp [ha, hw1, hlen2, strsD, zReq])) | with_reducible refine And.intro ?_ ?_ | with_reducible exact okay_rfl rfl | with_reducible assumption | (refine W_cond rfl (fun h => ?_) (fun h => ?_) <;> first | (exfalso; simp at h; first | done | omega | contradiction) | (exfalso; simp_all; done) | (try simp at h)) | omega)
          refine W_loop (fun n st => ∃ (j : Nat) (r : GReq), n = us.length - j ∧ j ≤ us.length ∧ takeAll kd ⟨kd, tn, [], [], [], 0⟩ rest us = takeAll kd r (rest.drop j) (us.drop j) ∧
            st = ⟨[], [(2, .ptr 0 0), (8, .ptr 1 0), (9, .ptr 2 0), (60, .d (.slc 1 (strsD us))), (61, .d (.int .i64 us.length)), (62, .d (.int .i64 j))], [(0, .box (zReq.row.map A.d)), (1, .box [.d (.str u), .d (.int .i64 kd), .d (.bool tk), .d (.str rest)]), (2, .box (r.row.map A.d))], 3⟩) us.length ⟨0, ⟨kd, tn, [], [], [], 0⟩, rfl, by omega, rfl, ?_⟩ ?_
          · simp [gc, closeN, liveA, gcV, gcO, renA, renAs, renO, namesAs, namesA, namesO, posn, zReq, strsD, hlen2]
          rintro n st ⟨j, r, rfl, hj, hinv, rfl⟩
          rw [hinv]
          by_cases hjl : j < us.length
          · have hw := List.getElem?_eq_getElem hjl
            generalize us[j] = w at hw
            have hc := List.getElem?_eq_getElem (show j < rest.length by omega)
            generalize rest[j]'_ = c at hc
            have hwl := hum w (by simp [List.mem_of_getElem? hw])
            obtain ⟨r', hq, ct⟩ := take_ok (GG := GG) u rest w kd tk r j c hc (by omega) (by omega)
            rw [takeAll_drop hc hw]
            cases htk : takeW kd c r w with
            | none =>
              rw [htk] at ct
              repeat' (first | refine W_seq ?_ | refine W_skip ?_ | refine W_block ?_ | refine W_exit ?_ | refine pick_pos rfl ?_ | refine pick_neg rfl ?_ | ((first | refine W_regP fun K hK => ?_ | refine W_regPD fun K hK => ?_ | refine W_ret ?_ | with_reducible refine callQ (ct) ?_); simp [Fin, hw, zReq]) | (with_reducible refine hK _ ?_; clear hK K) | (with_reducible refine goL_split (fun h => ?_) (fun h => ?_) <;> first | (exfalso; simp at h; first | done | omega | contradiction) | ((try simp at h); simp [hw, zReq])) | with_reducible refine And.intro ?_ ?_ | with_reducible exact okay_rfl rfl | with_reducible assumption | (refine W_cond rfl (fun h => ?_) (fun h => ?_) <;> first | (exfalso; simp at h; first | done | omega | contradiction) | (exfalso; simp_all; done) | (try simp at h)) | omega)
            | some q =>
              rw [htk] at ct
              have hq' := hq q htk
              subst hq'
              repeat' (first | refine W_seq ?_ | refine W_skip ?_ | refine W_block ?_ | refine W_exit ?_ | refine pick_pos rfl ?_ | refine pick_neg rfl ?_ | ((first | refine W_regP fun K hK => ?_ | refine W_regPD fun K hK => ?_ | refine W_ret ?_ | with_reducible refine callQ (ct) ?_); simp [Fin, hw, zReq]) | (with_reducible refine hK _ ?_; clear hK K) | (with_reducible refine goL_split (fun h => ?_) (fun h => ?_) <;> first | (exfalso; simp at h; first | done | omega | contradiction) | ((try simp at h); simp [hw, zReq])) | with_reducible refine And.intro ?_ ?_ | with_reducible exact okay_rfl rfl | with_reducible assumption | (refine W_cond rfl (fun h => ?_) (fun h => ?_) <;> first | (exfalso; simp at h; first | done | omega | contradiction) | (exfalso; simp_all; done) | (try simp at h)) | omega)
              refine ⟨us.length - (j + 1), by omega, j + 1, r', rfl, hjl, rfl, ?_⟩
              simp [gc, closeN, liveA, gcV, gcO, renA, renAs, renO, namesAs, namesA, namesO, posn, zReq]
              exact wrap_id (by omega) (by omega)
          · have hje : j = us.length := by omega
            subst hje
            rw [List.drop_of_length_le (Nat.le_refl _), List.drop_of_length_le (by omega)]
            simp only [takeAll]
            repeat' (first | refine W_seq ?_ | refine W_skip ?_ | refine W_block ?_ | refine W_exit ?_ | refine pick_pos rfl ?_ | refine pick_neg rfl ?_ | ((first | refine W_regP fun K hK => ?_ | refine W_regPD fun K hK => ?_ | refine W_ret ?_); simp [Fin, zReq]) | (with_reducible refine hK _ ?_; clear hK K) | (with_reducible refine goL_split (fun h => ?_) (fun h => ?_) <;> first | (exfalso; simp at h; first | done | omega | contradiction) | ((try simp at h); simp [zReq])) | with_reducible refine And.intro ?_ ?_ | with_reducible exact okay_rfl rfl | with_reducible assumption | (refine W_cond rfl (fun h => ?_) (fun h => ?_) <;> first | (exfalso; simp at h; first | done | omega | contradiction) | (exfalso; simp_all; done) | (try simp at h)) | omega)
        · have htn : (tk != tb) = true := by simpa using ht
          repeat' (first | refine W_seq ?_ | refine W_skip ?_ | refine W_block ?_ | refine W_exit ?_ | refine pick_pos rfl ?_ | refine pick_neg rfl ?_ | ((first | refine W_regP fun K hK => ?_ | refine W_regPD fun K hK => ?_ | refine W_ret ?_); simp [Fin, ha, hw1, hlen2, strsD, zReq, htn]) | (with_reducible refine hK _ ?_; clear hK K) | (with_reducible refine goL_split (fun h => ?_) (fun h => ?_) <;> first | (exfalso; simp at h; first | done | omega | contradiction) | ((try simp at h); simp [ha, hw1, hlen2, strsD, zReq, htn])) | with_reducible refine And.intro ?_ ?_ | with_reducible exact okay_rfl rfl | with_reducible assumption | (refine W_cond rfl (fun h => ?_) (fun h => ?_) <;> first | (exfalso; simp at h; first | done | omega | contradiction) | (exfalso; simp_all; done) | (try simp at h)) | omega)
          refine ⟨L.length - (i + 1), by omega, i + 1, rfl, hlt, take_all ha hn (by simp [matchF, ht]), ?_⟩
          simp [gc, closeN, liveA, gcV, gcO, renA, renAs, renO, namesAs, namesA, namesO, posn, zReq, strsD]
          exact wrap_id (by omega) (by omega)
      · have hun : (u != v) = true := by simpa using hu
        repeat' (first | refine W_seq ?_ | refine W_skip ?_ | refine W_block ?_ | refine W_exit ?_ | refine pick_pos rfl ?_ | refine pick_neg rfl ?_ | ((first | refine W_regP fun K hK => ?_ | refine W_regPD fun K hK => ?_ | refine W_ret ?_); simp [Fin, ha, hw1, hlen2, strsD, zReq, hun]) | (with_reducible refine hK _ ?_; clear hK K) | (with_reducible refine goL_split (fun h => ?_) (fun h => ?_) <;> first | (exfalso; simp at h; first | done | omega | contradiction) | ((try simp at h); simp [ha, hw1, hlen2, strsD, zReq, hun])) | with_reducible refine And.intro ?_ ?_ | with_reducible exact okay_rfl rfl | with_reducible assumption | (refine W_cond rfl (fun h => ?_) (fun h => ?_) <;> first | (exfalso; simp at h; first | done | omega | contradiction) | (exfalso; simp_all; done) | (try simp at h)) | omega)
        refine ⟨L.length - (i + 1), by omega, i + 1, rfl, hlt, take_all ha hn (by simp [matchF, hu]), ?_⟩
        simp [gc, closeN, liveA, gcV, gcO, renA, renAs, renO, namesAs, namesA, namesO, posn, zReq, strsD]
        exact wrap_id (by omega) (by omega)
    · have hln : ((us.length : Int) != (rest.length : Int) + 1) = true := by simp; omega
      repeat' (first | refine W_seq ?_ | refine W_skip ?_ | refine W_block ?_ | refine W_exit ?_ | refine pick_pos rfl ?_ | refine pick_neg rfl ?_ | ((first | refine W_regP fun K hK => ?_ | refine W_regPD fun K hK => ?_ | refine W_ret ?_); simp [Fin, ha, hw1, hln, zReq]) | (with_reducible refine hK _ ?_; clear hK K) | (with_reducible refine goL_split (fun h => ?_) (fun h => ?_) <;> first | (exfalso; simp at h; first | done | omega | contradiction) | ((try simp at h); simp [ha, hw1, hln, zReq])) | with_reducible refine And.intro ?_ ?_ | with_reducible exact okay_rfl rfl | with_reducible assumption | (refine W_cond rfl (fun h => ?_) (fun h => ?_) <;> first | (exfalso; simp at h; first | done | omega | contradiction) | (exfalso; simp_all; done) | (try simp at h)) | omega)
      refine ⟨L.length - (i + 1), by omega, i + 1, rfl, hlt, take_all ha hn (by simp [matchF, hlen]), ?_⟩
      simp [gc, closeN, liveA, gcV, gcO, renA, renAs, renO, namesAs, namesA, namesO, posn, zReq]
      exact wrap_id (by omega) (by omega)
  · rw [List.take_of_length_le (by omega)] at hn
    have hfind : L.find? (matchF us tb) = none := by rw [List.find?_eq_none]; intro f hf; rw [hn f hf]; simp
    rw [hfind]
    repeat' (first | refine W_seq ?_ | refine W_skip ?_ | refine W_block ?_ | refine W_exit ?_ | refine pick_pos rfl ?_ | refine pick_neg rfl ?_ | ((first | refine W_regP fun K hK => ?_ | refine W_regPD fun K hK => ?_ | refine W_ret ?_); simp [Fin, zReq]) | (with_reducible refine hK _ ?_; clear hK K) | (with_reducible refine goL_split (fun h => ?_) (fun h => ?_) <;> first | (exfalso; simp at h; first | done | omega | contradiction) | ((try simp at h); simp [zReq])) | with_reducible refine And.intro ?_ ?_ | with_reducible exact okay_rfl rfl | with_reducible assumption | (refine W_cond rfl (fun h => ?_) (fun h => ?_) <;> first | (exfalso; simp at h; first | done | omega | contradiction) | (exfalso; simp_all; done) | (try simp at h)) | omega)

def verbsL : List (List UInt8 × List UInt8) := [([112, 111, 108, 105, 99, 121], [119, 111]), ([116, 111, 107, 101, 110], [111, 110]), ([114, 101, 118, 111, 107, 101], [110]), ([114, 101, 110, 101, 119], [110]), ([112, 117, 116], [112, 110, 111]), ([103, 101, 116], [112, 110]), ([116, 97, 107, 101], [112, 110]), ([108, 105, 115, 116], [113]), ([114, 111, 108, 101], [119, 111, 110]), ([99, 114, 101, 100, 115], [119]), ([119, 114, 97, 112], [112, 110])]

def formsS : List (List UInt8) := [[112, 111, 108, 105, 99, 121, 32, 119, 111], [116, 111, 107, 101, 110, 32, 111, 110], [114, 101, 118, 111, 107, 101, 32, 110], [114, 101, 110, 101, 119, 32, 110], [112, 117, 116, 32, 112, 110, 111], [103, 101, 116, 32, 112, 110], [116, 97, 107, 101, 32, 112, 110], [108, 105, 115, 116, 32, 113], [114, 111, 108, 101, 32, 119, 111, 110], [99, 114, 101, 100, 115, 32, 119], [119, 114, 97, 112, 32, 112, 110]]

def shortV : List (List UInt8) := [[111, 112, 101, 110], [116, 105, 109, 101], [102, 97, 114], [], [99, 114, 97, 115, 104]]

def stepS (c : UInt8) (r : GReq) (w : List UInt8) : Option GReq :=
  if (c.toNat : Int) = 110 then (match numW w with | some n => some { r with fNum := n } | none => none)
  else if (c.toNat : Int) = 119 then some { r with fName := w }
  else if (c.toNat : Int) = 112 then some { r with fPath := w }
  else if (c.toNat : Int) = 113 then (if w = [46] then some r else some { r with fPath := w })
  else if (c.toNat : Int) = 111 then (if w = [46] then some r else some { r with fData := w })
  else some r

def foldS : GReq → List UInt8 → List (List UInt8) → Option GReq
  | r, c :: cs, w :: ws => match stepS c r w with | some r' => foldS r' cs ws | none => none
  | r, _, _ => some r

def endS (k : Nat) (ws : List (List UInt8)) : Option GReq → Option GReq
  | none => none
  | some r => if k = 0 then (match rulW (ws.getD 3 []) with | some d => some { r with fData := d } | none => none) else some r

def matchV (ws : List (List UInt8)) (p : List UInt8 × List UInt8) : Bool := ws.getD 1 [] == p.1 && decide (ws.length = 2 + p.2.length)

def sp3 (ws : List (List UInt8)) (t : Int) : Option GReq := match verbsL.findIdx? (matchV ws) with
  | none => none
  | some k => match verbsL[k]? with
    | none => none
    | some p => endS k ws (foldS ⟨k, t, [], [], [], 0⟩ p.2 (ws.drop 2))

def sp2 (ws : List (List UInt8)) : Option GReq := if ws.length < 2 then none else match numW (ws.getD 0 []) with | none => none | some t => sp3 ws t

def shortI (ws : List (List UInt8)) : Option Nat := if ws.length = 2 then shortV.findIdx? (fun v => ws.getD 0 [] == v) else none

def sp1 (ws : List (List UInt8)) : Option GReq := if ws = [[115, 121, 110, 99]] then some ⟨14, 0, [], [], [], 0⟩ else match shortI ws with
  | some k => (match numW (ws.getD 1 []) with | some n => some ⟨11 + k, 0, [], [], [], n⟩ | none => none)
  | none => sp2 ws

def specW (line : List UInt8) : Option GReq := if 250 < line.length then none else if (cutAt 32 line).all wordB = false then none else sp1 (cutAt 32 line)

theorem s_l19Forms_ok : Valid PP GG F_S_l19Forms [] (.own 0 1 (strsD formsS)) [] := by
  refine v_S_l19Forms [.own 0 1 (strsD formsS)] rfl rfl ?_
  repeat' (first | refine W_seq ?_ | refine W_skip ?_ | refine W_block ?_ | refine W_exit ?_ | refine pick_pos rfl ?_ | refine pick_neg rfl ?_ | ((first | refine W_regP fun K hK => ?_ | refine W_regPD fun K hK => ?_ | refine W_ret ?_); simp [Fin, formsS, strsD]) | (with_reducible refine hK _ ?_; clear hK K) | (with_reducible refine goL_split (fun h => ?_) (fun h => ?_) <;> first | (exfalso; simp at h; first | done | omega | contradiction) | ((try simp at h); simp [formsS, strsD])) | with_reducible refine And.intro ?_ ?_ | with_reducible exact okay_rfl rfl | with_reducible assumption | (refine W_cond rfl (fun h => ?_) (fun h => ?_) <;> first | (exfalso; simp at h; first | done | omega | contradiction) | (exfalso; simp_all; done) | (try simp at h)) | omega)

theorem s_l19Verb_ok (f v g : List UInt8) (hf : cutAt 32 f = [v, g]) (hl : f.length ≤ 1048576) : Valid PP GG F_S_l19Verb [.d (.str f)] (.tup [.d (.str v), .d (.str g)]) [none] := by
  refine v_S_l19Verb [.d (.str v), .d (.str g)] rfl rfl ?_
  have cs := l01Parts_ok (GG := GG) f 32 (by omega)
  change Valid PP GG F_S_l01Parts [.d (.str f), .d (.int .u8 32)] _ _ at cs
  rw [hf] at cs
  have hind := ind_strs [v, g]
  repeat' (first | refine W_seq ?_ | refine W_skip ?_ | refine W_block ?_ | refine W_exit ?_ | refine pick_pos rfl ?_ | refine pick_neg rfl ?_ | ((first | refine W_regP fun K hK => ?_ | refine W_regPD fun K hK => ?_ | refine W_ret ?_ | with_reducible refine callQ (cs) ?_); simp [Fin, strsD]) | (with_reducible refine hK _ ?_; clear hK K) | (with_reducible refine goL_split (fun h => ?_) (fun h => ?_) <;> first | (exfalso; simp at h; first | done | omega | contradiction) | ((try simp at h); simp [strsD])) | with_reducible refine And.intro ?_ ?_ | with_reducible exact okay_rfl rfl | with_reducible assumption | (refine W_cond rfl (fun h => ?_) (fun h => ?_) <;> first | (exfalso; simp at h; first | done | omega | contradiction) | (exfalso; simp_all; done) | (try simp at h)) | omega)

theorem forms_verbs : formsS.length = 11 ∧ verbsL.length = 11 ∧ ∀ i : _root_.Fin 11, ∃ f v, formsS[i.1]? = some f ∧ verbsL[i.1]? = some v ∧ cutAt 32 f = [v.1, v.2] ∧ f.length ≤ 20 ∧ v.2.length ≤ 3 ∧ (i.1 = 0 → v.2.length = 2) := by
  refine ⟨rfl, rfl, fun i => ?_⟩
  refine ⟨formsS[i.1]'(by simp [formsS]), verbsL[i.1]'(by simp [verbsL]), List.getElem?_eq_getElem _, List.getElem?_eq_getElem _, ?_⟩
  revert i; decide

theorem num_same {w : List UInt8} (n : Int) (h : numW w = some n) : numX w = n := by
  obtain ⟨h1, h2, h3, h4⟩ := num_of h
  obtain ⟨_, e, _⟩ := num_good (w := w) (by unfold inB; simp; omega) h3
  rw [e]
  by_cases hlt : (dsOf w).length < w.length
  · rw [if_pos hlt]; have := h4.1 hlt; omega
  · rw [if_neg hlt]; have := mt h4.2 hlt; omega

theorem foldS_drop2 {r : GReq} {cs : List UInt8} {ws : List (List UInt8)} {j : Nat} {c : UInt8} {w : List UInt8} (hc : cs[j]? = some c) (hw : ws[j]? = some w) :
    foldS r (cs.drop j) (ws.drop j) = match stepS c r w with | some r' => foldS r' (cs.drop (j + 1)) (ws.drop (j + 1)) | none => none := by
  rw [drop_get hc, drop_get hw]; rfl

theorem stepS_cases (c : UInt8) (r : GReq) (w : List UInt8) : (c = 110 ∧ numW w = none ∧ stepS c r w = none) ∨ ∃ r' : GReq, stepS c r w = some r' ∧ ((c = 110 ∧ ∃ m, numW w = some m ∧ r' = { r with fNum := m }) ∨ (¬ c.toNat = 110 ∧
    ((c = 119 ∧ r' = { r with fName := w }) ∨ (c = 112 ∧ r' = { r with fPath := w }) ∨ (c = 113 ∧ w = [46] ∧ r' = r) ∨ (c = 113 ∧ ¬ w = [46] ∧ r' = { r with fPath := w }) ∨ (c = 111 ∧ w = [46] ∧ r' = r) ∨ (c = 111 ∧ ¬ w = [46] ∧ r' = { r with fData := w }) ∨
     (¬ c.toNat = 119 ∧ ¬ c.toNat = 112 ∧ ¬ c.toNat = 113 ∧ ¬ c.toNat = 111 ∧ r' = r)))) := by
  have key : ∀ n : Nat, n < 256 → c.toNat = n → c = UInt8.ofNat n := fun n hn h => by rw [← h]; simp
  unfold stepS
  by_cases h1 : c.toNat = 110
  · obtain rfl := key _ (by omega) h1
    cases hn : numW w with
    | none => exact .inl ⟨rfl, rfl, rfl⟩
    | some m => exact .inr ⟨_, rfl, .inl ⟨rfl, m, rfl, rfl⟩⟩
  · rw [if_neg (by omega)]
    by_cases h2 : c.toNat = 119
    · obtain rfl := key _ (by omega) h2
      exact .inr ⟨_, rfl, .inr ⟨h1, .inl ⟨rfl, rfl⟩⟩⟩
    rw [if_neg (by omega)]
    by_cases h3 : c.toNat = 112
    · obtain rfl := key _ (by omega) h3
      exact .inr ⟨_, rfl, .inr ⟨h1, .inr (.inl ⟨rfl, rfl⟩)⟩⟩
    rw [if_neg (by omega)]
    by_cases h4 : c.toNat = 113
    · obtain rfl := key _ (by omega) h4
      rw [if_pos (by decide)]
      by_cases hd : w = [46]
      · rw [if_pos hd]; exact .inr ⟨_, rfl, .inr ⟨h1, .inr (.inr (.inl ⟨rfl, hd, rfl⟩))⟩⟩
      · rw [if_neg hd]; exact .inr ⟨_, rfl, .inr ⟨h1, .inr (.inr (.inr (.inl ⟨rfl, hd, rfl⟩)))⟩⟩
    rw [if_neg (by omega)]
    by_cases h5 : c.toNat = 111
    · obtain rfl := key _ (by omega) h5
      rw [if_pos (by decide)]
      by_cases hd : w = [46]
      · rw [if_pos hd]; exact .inr ⟨_, rfl, .inr ⟨h1, .inr (.inr (.inr (.inr (.inl ⟨rfl, hd, rfl⟩))))⟩⟩
      · rw [if_neg hd]; exact .inr ⟨_, rfl, .inr ⟨h1, .inr (.inr (.inr (.inr (.inr (.inl ⟨rfl, hd, rfl⟩)))))⟩⟩
    rw [if_neg (by omega)]
    exact .inr ⟨_, rfl, .inr ⟨h1, .inr (.inr (.inr (.inr (.inr (.inr ⟨h2, h3, h4, h5, rfl⟩)))))⟩⟩

def S0 (ws : List (List UInt8)) : St := ⟨[], [(2, .ptr 0 0), (4, .ptr 1 0), (5, .sl 2)], [(0, .box (zReq.row.map A.d)), (1, .box (zReq.row.map A.d)), (2, .arr 0 0 1 (strsD ws))], 3⟩

theorem s_ParseReq_ok (line : List UInt8) (hline : line.length ≤ 1048576) : Valid PP GG F_S_ParseReq [.d (.str line)] (.tup [.agg ((specW line).getD zReq).o, .d (.bool (specW line).isSome)]) [none] := by
  refine v_S_ParseReq [.agg ((specW line).getD zReq).o, .d (.bool (specW line).isSome)] rfl rfl ?_
  unfold specW
  by_cases hl : 250 < line.length
  · rw [if_pos hl]
    have hl2 : decide (250 < (line.length : Int)) = true := decide_eq_true (by omega)
    repeat' (first | refine W_seq ?_ | refine W_skip ?_ | refine W_block ?_ | refine W_exit ?_ | refine pick_pos rfl ?_ | refine pick_neg rfl ?_ | ((first | refine W_regP fun K hK => ?_ | refine W_regPD fun K hK => ?_ | refine W_ret ?_); simp [Fin, hl2, zReq]) | (with_reducible refine hK _ ?_; clear hK K) | (with_reducible refine goL_split (fun h => ?_) (fun h => ?_) <;> first | (exfalso; simp at h; first | done | omega | contradiction) | ((try simp at h); simp [hl2, zReq])) | with_reducible refine And.intro ?_ ?_ | with_reducible exact okay_rfl rfl | with_reducible assumption | (refine W_cond rfl (fun h => ?_) (fun h => ?_) <;> first | (exfalso; simp at h; first | done | omega | contradiction) | (exfalso; simp_all; done) | (try simp at h)) | omega)
  rw [if_neg hl]
  have cs := l01Parts_ok (GG := GG) line 32 (by omega)
  change Valid PP GG F_S_l01Parts [.d (.str line), .d (.int .u8 32)] _ _ at cs
  have hcl := cutAt_len 32 line
  have hcm : ∀ p, p ∈ cutAt 32 line → p.length ≤ line.length := fun p => cutAt_mem line
  obtain ⟨p0, ps0, hps⟩ := cutAt_ne 32 line
  have hne : cutAt 32 line ≠ [] := by rw [hps]; simp
  clear hps
  generalize cutAt 32 line = ws at *
  obtain ⟨R, hR⟩ : ∃ R, (if ws.all wordB = false then none else sp1 ws) = R := ⟨_, rfl⟩
  rw [hR]
  have hind := ind_strs ws
  refine W_seq (?_)
  apply W_regS
  · intro K hK
    simp
    repeat' (first | with_reducible exact hK | (with_reducible refine goL_split (fun _ => ?_) (fun _ => ?_) <;> simp) | with_reducible refine And.intro ?_ ?_ | with_reducible exact okay_rfl rfl | with_reducible assumption | omega)
  refine W_seq (?_)
  apply W_regS
  · intro K hK
    simp
    repeat' (first | with_reducible exact hK | (with_reducible refine goL_split (fun _ => ?_) (fun _ => ?_) <;> simp) | with_reducible refine And.intro ?_ ?_ | with_reducible exact okay_rfl rfl | with_reducible assumption | omega)
  refine W_seq (?_)
  refine W_seq (?_)
  apply W_regS
  · intro K hK
    simp
    repeat' (first | with_reducible exact hK | (with_reducible refine goL_split (fun _ => ?_) (fun _ => ?_) <;> simp) | with_reducible refine And.intro ?_ ?_ | with_reducible exact okay_rfl rfl | with_reducible assumption | omega)
  refine W_cond rfl (fun h => ?_) (fun h => W_skip ?_)
  · simp at h; omega
  refine W_seq (?_)
  apply W_regS
  · intro K hK
    simp
    repeat' (first | with_reducible exact hK | (with_reducible refine callQ (cs) ?_; simp) | (with_reducible refine goL_split (fun _ => ?_) (fun _ => ?_) <;> simp) | with_reducible refine And.intro ?_ ?_ | with_reducible exact okay_rfl rfl | with_reducible assumption | omega)
  refine W_cut [2, 4, 5] (fun st => ws.all wordB = true ∧ st = S0 ws) ?_ ?_
  · repeat' (first | refine W_seq ?_ | refine W_skip ?_ | refine W_block ?_ | refine W_exit ?_ | refine pick_pos rfl ?_ | refine pick_neg rfl ?_ | ((first | refine W_regP fun K hK => ?_ | refine W_regPD fun K hK => ?_ | refine W_ret ?_); simp [Fin]) | (with_reducible refine hK _ ?_; clear hK K) | (with_reducible refine goL_split (fun h => ?_) (fun h => ?_) <;> first | (exfalso; simp at h; first | done | omega | contradiction) | ((try simp at h); simp)) | with_reducible refine And.intro ?_ ?_ | with_reducible exact okay_rfl rfl | with_reducible assumption | (refine W_cond rfl (fun h => ?_) (fun h => ?_) <;> first | (exfalso; simp at h; first | done | omega | contradiction) | (exfalso; simp_all; done) | (try simp at h)) | omega)
    refine W_loop (fun n st => ∃ i : Nat, n = ws.length - i ∧ i ≤ ws.length ∧ (∀ w, w ∈ ws.take i → wordB w = true) ∧
      st = ⟨[], [(2, .ptr 0 0), (4, .ptr 1 0), (5, .sl 2), (6, .d (.int .i64 i))], [(0, .box (zReq.row.map A.d)), (1, .box (zReq.row.map A.d)), (2, .arr 0 0 1 (strsD ws))], 3⟩) _ ⟨0, rfl, by omega, fun w h => by simp at h, rfl⟩ ?_
    rintro n st ⟨i, rfl, hi, hn, rfl⟩
    by_cases hlt : i < ws.length
    · have ha := List.getElem?_eq_getElem hlt
      generalize ws[i] = w at ha
      have hwl := hcm w (List.mem_of_getElem? ha)
      have cw := s_l19Word_ok (GG := GG) w (by omega)
      cases hb : wordB w with
      | false =>
        rw [hb] at cw
        have hall : ws.all wordB = false := List.all_eq_false.2 ⟨w, List.mem_of_getElem? ha, by rw [hb]; simp⟩
        rw [if_pos hall] at hR
        subst hR
        repeat' (first | refine W_seq ?_ | refine W_skip ?_ | refine W_block ?_ | refine W_exit ?_ | refine pick_pos rfl ?_ | refine pick_neg rfl ?_ | ((first | refine W_regP fun K hK => ?_ | refine W_regPD fun K hK => ?_ | refine W_ret ?_ | with_reducible refine callQ (cw) ?_); simp [Fin, ha, zReq]) | (with_reducible refine hK _ ?_; clear hK K) | (with_reducible refine goL_split (fun h => ?_) (fun h => ?_) <;> first | (exfalso; simp at h; first | done | omega | contradiction) | ((try simp at h); simp [ha, zReq])) | with_reducible refine And.intro ?_ ?_ | with_reducible exact okay_rfl rfl | with_reducible assumption | (refine W_cond rfl (fun h => ?_) (fun h => ?_) <;> first | (exfalso; simp at h; first | done | omega | contradiction) | (exfalso; simp_all; done) | (try simp at h)) | omega)
      | true =>
        rw [hb] at cw
        repeat' (first | refine W_seq ?_ | refine W_skip ?_ | refine W_block ?_ | refine W_exit ?_ | refine pick_pos rfl ?_ | refine pick_neg rfl ?_ | ((first | refine W_regP fun K hK => ?_ | refine W_regPD fun K hK => ?_ | refine W_ret ?_ | with_reducible refine callQ (cw) ?_); simp [Fin, ha, zReq]) | (with_reducible refine hK _ ?_; clear hK K) | (with_reducible refine goL_split (fun h => ?_) (fun h => ?_) <;> first | (exfalso; simp at h; first | done | omega | contradiction) | ((try simp at h); simp [ha, zReq])) | with_reducible refine And.intro ?_ ?_ | with_reducible exact okay_rfl rfl | with_reducible assumption | (refine W_cond rfl (fun h => ?_) (fun h => ?_) <;> first | (exfalso; simp at h; first | done | omega | contradiction) | (exfalso; simp_all; done) | (try simp at h)) | omega)
        refine ⟨ws.length - (i + 1), by omega, i + 1, rfl, hlt, take_all ha hn hb, ?_⟩
        simp [gc, closeN, liveA, gcV, gcO, renA, renAs, renO, namesAs, namesA, namesO, posn, zReq]
        exact wrap_id (by omega) (by omega)
    · rw [List.take_of_length_le (by omega)] at hn
      have hall : ws.all wordB = true := List.all_eq_true.2 hn
      repeat' (first | refine W_seq ?_ | refine W_skip ?_ | refine W_block ?_ | refine W_exit ?_ | refine pick_pos rfl ?_ | refine pick_neg rfl ?_ | ((first | refine W_regP fun K hK => ?_ | refine W_regPD fun K hK => ?_ | refine W_ret ?_); simp [Fin, zReq]) | (with_reducible refine hK _ ?_; clear hK K) | (with_reducible refine goL_split (fun h => ?_) (fun h => ?_) <;> first | (exfalso; simp at h; first | done | omega | contradiction) | ((try simp at h); simp [zReq])) | with_reducible refine And.intro ?_ ?_ | with_reducible exact okay_rfl rfl | with_reducible assumption | (refine W_cond rfl (fun h => ?_) (fun h => ?_) <;> first | (exfalso; simp at h; first | done | omega | contradiction) | (exfalso; simp_all; done) | (try simp at h)) | omega)
      simp [gc, closeN, liveA, gcV, gcO, renA, renAs, renO, namesAs, namesA, namesO, posn, S0, zReq]
  rintro st ⟨hall, rfl⟩
  rw [if_neg (by rw [hall]; simp)] at hR
  clear hall cs
  unfold sp1 at hR
  unfold S0
  by_cases hsy : ws = [[115, 121, 110, 99]]
  · rw [if_pos hsy] at hR
    subst hsy hR
    repeat' (first | refine W_seq ?_ | refine W_skip ?_ | refine W_block ?_ | refine W_exit ?_ | refine pick_pos rfl ?_ | refine pick_neg rfl ?_ | ((first | refine W_regP fun K hK => ?_ | refine W_regPD fun K hK => ?_ | refine W_ret ?_); simp [Fin, strsD, zReq]) | (with_reducible refine hK _ ?_; clear hK K) | (with_reducible refine goL_split (fun h => ?_) (fun h => ?_) <;> first | (exfalso; simp at h; first | done | omega | contradiction) | ((try simp at h); simp [strsD, zReq])) | with_reducible refine And.intro ?_ ?_ | with_reducible exact okay_rfl rfl | with_reducible assumption | (refine W_cond rfl (fun h => ?_) (fun h => ?_) <;> first | (exfalso; simp at h; first | done | omega | contradiction) | (exfalso; simp_all; done) | (try simp at h)) | omega)
  rw [if_neg hsy] at hR
  refine W_cut [2, 4, 5] (fun st => st = S0 ws) ?_ ?_
  · by_cases h1 : ws.length = 1
    · obtain ⟨w, rfl⟩ := List.length_eq_one_iff.1 h1
      have hwn : (w == [115, 121, 110, 99]) = false := by simpa using hsy
      repeat' (first | refine W_seq ?_ | refine W_skip ?_ | refine W_block ?_ | refine W_exit ?_ | refine pick_pos rfl ?_ | refine pick_neg rfl ?_ | ((first | refine W_regP fun K hK => ?_ | refine W_regPD fun K hK => ?_ | refine W_ret ?_); simp [Fin, strsD, hwn]) | (with_reducible refine hK _ ?_; clear hK K) | (with_reducible refine goL_split (fun h => ?_) (fun h => ?_) <;> first | (exfalso; simp at h; first | done | omega | contradiction) | ((try simp at h); simp [strsD, hwn])) | with_reducible refine And.intro ?_ ?_ | with_reducible exact okay_rfl rfl | with_reducible assumption | (refine W_cond rfl (fun h => ?_) (fun h => ?_) <;> first | (exfalso; simp at h; first | done | omega | contradiction) | (exfalso; simp_all; done) | (try simp at h)) | omega)
      simp [gc, closeN, liveA, gcV, gcO, renA, renAs, renO, namesAs, namesA, namesO, posn, S0, zReq, strsD]
    · have h1' : ((ws.length : Int) == 1) = false := by simp; omega
      repeat' (first | refine W_seq ?_ | refine W_skip ?_ | refine W_block ?_ | refine W_exit ?_ | refine pick_pos rfl ?_ | refine pick_neg rfl ?_ | ((first | refine W_regP fun K hK => ?_ | refine W_regPD fun K hK => ?_ | refine W_ret ?_); simp [Fin, h1']) | (with_reducible refine hK _ ?_; clear hK K) | (with_reducible refine goL_split (fun h => ?_) (fun h => ?_) <;> first | (exfalso; simp at h; first | done | omega | contradiction) | ((try simp at h); simp [h1'])) | with_reducible refine And.intro ?_ ?_ | with_reducible exact okay_rfl rfl | with_reducible assumption | (refine W_cond rfl (fun h => ?_) (fun h => ?_) <;> first | (exfalso; simp at h; first | done | omega | contradiction) | (exfalso; simp_all; done) | (try simp at h)) | omega)
      simp [gc, closeN, liveA, gcV, gcO, renA, renAs, renO, namesAs, namesA, namesO, posn, S0, zReq]
  rintro st rfl
  unfold S0
  refine W_cut [2, 4, 5] (fun st => shortI ws = none ∧ st = S0 ws) ?_ ?_
  · by_cases h2 : ws.length = 2
    · obtain ⟨a, b, rfl⟩ : ∃ a b, ws = [a, b] := by
        match ws, h2 with
        | [a, b], _ => exact ⟨a, b, rfl⟩
      have hal := hcm a (by simp)
      have hbl := hcm b (by simp)
      have hsi : shortI [a, b] = shortV.findIdx? (fun v => a == v) := rfl
      have hsl : shortV.length = 5 := rfl
      have cn := s_l19Number_ok (GG := GG) b (by omega)
      have hnx : ∀ n, numW b = some n → numX b = n := num_same
      repeat' (first | refine W_seq ?_ | refine W_skip ?_ | refine W_block ?_ | refine W_exit ?_ | refine pick_pos rfl ?_ | refine pick_neg rfl ?_ | ((first | refine W_regP fun K hK => ?_ | refine W_regPD fun K hK => ?_ | refine W_ret ?_); simp [Fin]) | (with_reducible refine hK _ ?_; clear hK K) | (with_reducible refine goL_split (fun h => ?_) (fun h => ?_) <;> first | (exfalso; simp at h; first | done | omega | contradiction) | ((try simp at h); simp)) | with_reducible refine And.intro ?_ ?_ | with_reducible exact okay_rfl rfl | with_reducible assumption | (refine W_cond rfl (fun h => ?_) (fun h => ?_) <;> first | (exfalso; simp at h; first | done | omega | contradiction) | (exfalso; simp_all; done) | (try simp at h)) | omega)
      refine W_loop (fun n st => ∃ k : Nat, n = 5 - k ∧ k ≤ 5 ∧ (∀ v, v ∈ shortV.take k → (a == v) = false) ∧
        st = ⟨[], [(2, .ptr 0 0), (4, .ptr 1 0), (5, .sl 2), (7, .sl 3), (8, .d (.int .i64 k))], [(0, .box (zReq.row.map A.d)), (1, .box (zReq.row.map A.d)), (2, .arr 0 0 1 (strsD [a, b])), (3, .arr 0 0 1 (strsD shortV))], 4⟩) _ ⟨0, rfl, by omega, fun w h => by simp at h, rfl⟩ ?_
      rintro n st ⟨k, rfl, hk, hn, rfl⟩
      by_cases hlt : k < 5
      · have hv := List.getElem?_eq_getElem (show k < shortV.length by omega)
        generalize shortV[k]'_ = v at hv
        cases hav : (a == v) with
        | true =>
          have hf : shortV.findIdx? (fun v => a == v) = some k := findIdx_hit hv hn hav
          rw [hsi, hf] at hR
          simp only [List.getD_cons_succ, List.getD_cons_zero] at hR
          have hw1 : IntKind.i64.wrap (11 + (k : Int)) = 11 + (k : Int) := wrap_id (by omega) (by omega)
          cases hnb : numW b with
          | none =>
            rw [hnb] at cn hR
            subst hR
            repeat' (first | refine W_seq ?_ | refine W_skip ?_ | refine W_block ?_ | refine W_exit ?_ | refine pick_pos rfl ?_ | refine pick_neg rfl ?_ | ((first | refine W_regP fun K hK => ?_ | refine W_regPD fun K hK => ?_ | refine W_ret ?_ | with_reducible refine callQ (cn) ?_); simp [Fin, strsD, hv, hav, zReq]) | (with_reducible refine hK _ ?_; clear hK K) | (with_reducible refine goL_split (fun h => ?_) (fun h => ?_) <;> first | (exfalso; simp at h; first | done | omega | contradiction) | ((try simp at h); simp [strsD, hv, hav, zReq])) | with_reducible refine And.intro ?_ ?_ | with_reducible exact okay_rfl rfl | with_reducible assumption | (refine W_cond rfl (fun h => ?_) (fun h => ?_) <;> first | (exfalso; simp at h; first | done | omega | contradiction) | (exfalso; simp_all; done) | (try simp at h)) | omega)
          | some m =>
            rw [hnb] at cn hR
            rw [hnx m hnb] at cn
            simp only at hR
            subst hR
            repeat' (first | refine W_seq ?_ | refine W_skip ?_ | refine W_block ?_ | refine W_exit ?_ | refine pick_pos rfl ?_ | refine pick_neg rfl ?_ | ((first | refine W_regP fun K hK => ?_ | refine W_regPD fun K hK => ?_ | refine W_ret ?_ | with_reducible refine callQ (cn) ?_); simp [Fin, strsD, hv, hav, zReq, hw1]) | (with_reducible refine hK _ ?_; clear hK K) | (with_reducible refine goL_split (fun h => ?_) (fun h => ?_) <;> first | (exfalso; simp at h; first | done | omega | contradiction) | ((try simp at h); simp [strsD, hv, hav, zReq, hw1])) | with_reducible refine And.intro ?_ ?_ | with_reducible exact okay_rfl rfl | with_reducible assumption | (refine W_cond rfl (fun h => ?_) (fun h => ?_) <;> first | (exfalso; simp at h; first | done | omega | contradiction) | (exfalso; simp_all; done) | (try simp at h)) | omega)
        | false =>
          repeat' (first | refine W_seq ?_ | refine W_skip ?_ | refine W_block ?_ | refine W_exit ?_ | refine pick_pos rfl ?_ | refine pick_neg rfl ?_ | ((first | refine W_regP fun K hK => ?_ | refine W_regPD fun K hK => ?_ | refine W_ret ?_); simp [Fin, strsD, hv, hav, zReq]) | (with_reducible refine hK _ ?_; clear hK K) | (with_reducible refine goL_split (fun h => ?_) (fun h => ?_) <;> first | (exfalso; simp at h; first | done | omega | contradiction) | ((try simp at h); simp [strsD, hv, hav, zReq])) | with_reducible refine And.intro ?_ ?_ | with_reducible exact okay_rfl rfl | with_reducible assumption | (refine W_cond rfl (fun h => ?_) (fun h => ?_) <;> first | (exfalso; simp at h; first | done | omega | contradiction) | (exfalso; simp_all; done) | (try simp at h)) | omega)
          refine ⟨5 - (k + 1), by omega, k + 1, rfl, hlt, take_all hv hn hav, ?_⟩
          simp [gc, closeN, liveA, gcV, gcO, renA, renAs, renO, namesAs, namesA, namesO, posn, zReq, strsD]
          exact wrap_id (by omega) (by omega)
      · rw [List.take_of_length_le (by omega)] at hn
        have hf : shortV.findIdx? (fun v => a == v) = none := findIdx_miss hn
        have hsn := hsi.trans hf
        repeat' (first | refine W_seq ?_ | refine W_skip ?_ | refine W_block ?_ | refine W_exit ?_ | refine pick_pos rfl ?_ | refine pick_neg rfl ?_ | ((first | refine W_regP fun K hK => ?_ | refine W_regPD fun K hK => ?_ | refine W_ret ?_); simp [Fin, zReq]) | (with_reducible refine hK _ ?_; clear hK K) | (with_reducible refine goL_split (fun h => ?_) (fun h => ?_) <;> first | (exfalso; simp at h; first | done | omega | contradiction) | ((try simp at h); simp [zReq])) | with_reducible refine And.intro ?_ ?_ | with_reducible exact okay_rfl rfl | with_reducible assumption | (refine W_cond rfl (fun h => ?_) (fun h => ?_) <;> first | (exfalso; simp at h; first | done | omega | contradiction) | (exfalso; simp_all; done) | (try simp at h)) | omega)
        simp [gc, closeN, liveA, gcV, gcO, renA, renAs, renO, namesAs, namesA, namesO, posn, S0, zReq, strsD]
    · have hsi : shortI ws = none := by unfold shortI; rw [if_neg h2]
      have h2' : ((ws.length : Int) == 2) = false := by simp; omega
      repeat' (first | refine W_seq ?_ | refine W_skip ?_ | refine W_block ?_ | refine W_exit ?_ | refine pick_pos rfl ?_ | refine pick_neg rfl ?_ | ((first | refine W_regP fun K hK => ?_ | refine W_regPD fun K hK => ?_ | refine W_ret ?_); simp [Fin, h2']) | (with_reducible refine hK _ ?_; clear hK K) | (with_reducible refine goL_split (fun h => ?_) (fun h => ?_) <;> first | (exfalso; simp at h; first | done | omega | contradiction) | ((try simp at h); simp [h2'])) | with_reducible refine And.intro ?_ ?_ | with_reducible exact okay_rfl rfl | with_reducible assumption | (refine W_cond rfl (fun h => ?_) (fun h => ?_) <;> first | (exfalso; simp at h; first | done | omega | contradiction) | (exfalso; simp_all; done) | (try simp at h)) | omega)
      simp [gc, closeN, liveA, gcV, gcO, renA, renAs, renO, namesAs, namesA, namesO, posn, S0, zReq]
  rintro st ⟨hsi, rfl⟩
  rw [hsi] at hR
  simp only at hR
  unfold S0
  unfold sp2 at hR
  by_cases h2 : ws.length < 2
  · rw [if_pos h2] at hR
    subst hR
    have h2' : decide ((ws.length : Int) < 2) = true := decide_eq_true (by omega)
    repeat' (first | refine W_seq ?_ | refine W_skip ?_ | refine W_block ?_ | refine W_exit ?_ | refine pick_pos rfl ?_ | refine pick_neg rfl ?_ | ((first | refine W_regP fun K hK => ?_ | refine W_regPD fun K hK => ?_ | refine W_ret ?_); simp [Fin, h2', zReq]) | (with_reducible refine hK _ ?_; clear hK K) | (with_reducible refine goL_split (fun h => ?_) (fun h => ?_) <;> first | (exfalso; simp at h; first | done | omega | contradiction) | ((try simp at h); simp [h2', zReq])) | with_reducible refine And.intro ?_ ?_ | with_reducible exact okay_rfl rfl | with_reducible assumption | (refine W_cond rfl (fun h => ?_) (fun h => ?_) <;> first | (exfalso; simp at h; first | done | omega | contradiction) | (exfalso; simp_all; done) | (try simp at h)) | omega)
  rw [if_neg h2] at hR
  have h2' : decide ((ws.length : Int) < 2) = false := decide_eq_false (by omega)
  obtain ⟨a, b, args, rfl⟩ : ∃ a b args, ws = a :: b :: args := by
    match ws, h2 with
    | a :: b :: args, _ => exact ⟨a, b, args, rfl⟩
    | [], h => simp at h
    | [_], h => simp at h
  have hal := hcm a (by simp)
  have cn := s_l19Number_ok (GG := GG) a (by omega)
  have hnx : ∀ n, numW a = some n → numX a = n := num_same
  simp only [List.getD_cons_zero] at hR
  cases hna : numW a with
  | none =>
    rw [hna] at cn hR
    subst hR
    repeat' (first | refine W_seq ?_ | refine W_skip ?_ | refine W_block ?_ | refine W_exit ?_ | refine pick_pos rfl ?_ | refine pick_neg rfl ?_ | ((first | refine W_regP fun K hK => ?_ | refine W_regPD fun K hK => ?_ | refine W_ret ?_ | with_reducible refine callQ (cn) ?_); simp [Fin, h2', strsD, zReq]) | (with_reducible refine hK _ ?_; clear hK K) | (with_reducible refine goL_split (fun h => ?_) (fun h => ?_) <;> first | (exfalso; simp at h; first | done | omega | contradiction) | ((try simp at h); simp [h2', strsD, zReq])) | with_reducible refine And.intro ?_ ?_ | with_reducible exact okay_rfl rfl | with_reducible assumption | (refine W_cond rfl (fun h => ?_) (fun h => ?_) <;> first | (exfalso; simp at h; first | done | omega | contradiction) | (exfalso; simp_all; done) | (try simp at h)) | omega)
  | some t =>
  rw [hna] at cn hR
  rw [hnx t hna] at cn
  simp only at hR
  have cf := s_l19Forms_ok (GG := GG)
  obtain ⟨hF, hV, hFV⟩ := forms_verbs
  have hindf := ind_strs formsS
  clear hnx hna hsi hsy
  unfold sp3 at hR
  generalize formsS = Fm at *
  generalize verbsL = Vb at *
  repeat' (first | refine W_seq ?_ | refine W_skip ?_ | refine W_block ?_ | refine W_exit ?_ | refine pick_pos rfl ?_ | refine pick_neg rfl ?_ | ((first | refine W_regP fun K hK => ?_ | refine W_regPD fun K hK => ?_ | refine W_ret ?_ | with_reducible refine callQ (cn) ?_ | with_reducible refine callQ (cf) ?_); simp [Fin, h2', strsD, zReq]) | (with_reducible refine hK _ ?_; clear hK K) | (with_reducible refine goL_split (fun h => ?_) (fun h => ?_) <;> first | (exfalso; simp at h; first | done | omega | contradiction) | ((try simp at h); simp [h2', strsD, zReq])) | with_reducible refine And.intro ?_ ?_ | with_reducible exact okay_rfl rfl | with_reducible assumption | (refine W_cond rfl (fun h => ?_) (fun h => ?_) <;> first | (exfalso; simp at h; first | done | omega | contradiction) | (exfalso; simp_all; done) | (try simp at h)) | omega)
  refine W_loop (fun n st => ∃ k : Nat, n = Fm.length - k ∧ k ≤ Fm.length ∧ (∀ p, p ∈ Vb.take k → matchV (a :: b :: args) p = false) ∧
    st = ⟨[], [(2, .ptr 0 0), (4, .ptr 1 0), (5, .sl 2), (11, .d (.int .i64 t)), (13, .sl 3), (14, .d (.int .i64 k))], [(0, .box (zReq.row.map A.d)), (1, .box (zReq.row.map A.d)), (2, .arr 0 0 1 (strsD (a :: b :: args))), (3, .arr 0 0 1 (strsD Fm))], 4⟩) _ ⟨0, rfl, by omega, fun w h => by simp at h, rfl⟩ ?_
  rintro n st ⟨k, rfl, hk, hn, rfl⟩
  by_cases hlt : k < Fm.length
  · obtain ⟨f, ⟨v, g⟩, hf, hv, hcut, hfl, hgl, hg0⟩ := hFV ⟨k, by omega⟩
    simp only at hf hv hcut hgl hg0
    have cv := s_l19Verb_ok (GG := GG) f v g hcut (by omega)
    have hw1 : IntKind.i64.wrap (2 + (g.length : Int)) = 2 + (g.length : Int) := wrap_id (by omega) (by omega)
    have hwk : IntKind.i64.wrap ((k : Int) + 1) = (k : Int) + 1 := wrap_id (by omega) (by omega)
    by_cases hbv : b = v
    · subst hbv
      by_cases hlen : args.length = g.length
      · have hm : matchV (a :: b :: args) (b, g) = true := by simp [matchV, hlen]; omega
        have hfi : Vb.findIdx? (matchV (a :: b :: args)) = some k := findIdx_hit hv hn hm
        rw [hfi] at hR
        simp only [hv, List.drop_succ_cons, List.drop_zero] at hR
        repeat' (first | refine W_seq ?_ | refine W_skip ?_ | refine W_block ?_ | refine W_exit ?_ | refine pick_pos rfl ?_ | refine pick_neg rfl ?_ | ((first | refine W_regP fun K hK => ?_ | refine W_regPD fun K hK => ?_ | refine W_ret ?_ | with_reducible refine callQ (cv) ?_); simp [Fin, h2', strsD, zReq, hf, hw1, hlen]) | (with_reducible refine hK _ ?_; clear hK K) | (with_reducible refine goL_split (fun h => ?_) (fun h => ?_) <;> first | (exfalso; simp at h; first | done | omega | contradiction) | ((try simp at h); simp [h2', strsD, zReq, hf, hw1, hlen])) | with_reducible refine And.intro ?_ ?_ | with_reducible exact okay_rfl rfl | with_reducible assumption | (refine W_cond rfl (fun h => ?_) (fun h => ?_) <;> first | (exfalso; simp at h; first | done | omega | contradiction) | (exfalso; simp_all; done) | (try simp at h)) | omega)
        refine W_loop (fun n st => ∃ (i : Nat) (r : GReq), n = g.length - i ∧ i ≤ g.length ∧ foldS ⟨k, t, [], [], [], 0⟩ g args = foldS r (g.drop i) (args.drop i) ∧
          st = ⟨[], [(2, .ptr 0 0), (4, .ptr 1 0), (5, .sl 2), (14, .d (.int .i64 k)), (16, .d (.str g)), (17, .ptr 3 0), (18, .d (.int .i64 i))], [(0, .box (zReq.row.map A.d)), (1, .box (zReq.row.map A.d)), (2, .arr 0 0 1 (strsD (a :: b :: args))), (3, .box (r.row.map A.d))], 4⟩) _ ⟨0, ⟨k, t, [], [], [], 0⟩, rfl, by omega, rfl, rfl⟩ ?_
        rintro n st ⟨i, r, rfl, hi, hinv, rfl⟩
        have hwi : IntKind.i64.wrap (2 + (i : Int)) = 2 + (i : Int) := wrap_id (by omega) (by omega)
        have hwj : IntKind.i64.wrap ((i : Int) + 1) = (i : Int) + 1 := wrap_id (by omega) (by omega)
        have htn : (2 + (i : Int)).toNat = i + 2 := by omega
        by_cases hil : i < g.length
        · have hw := List.getElem?_eq_getElem (show i < args.length by omega)
          generalize args[i]'_ = w at hw
          have hc := List.getElem?_eq_getElem hil
          generalize g[i]'_ = c at hc
          have hwl := hcm w (by simp [List.mem_of_getElem? hw])
          have cw := s_l19Number_ok (GG := GG) w (by omega)
          have hfd := foldS_drop2 (r := r) hc hw
          have hla : i + 2 < args.length + 1 + 1 := by omega
          rcases stepS_cases c r w with ⟨rfl, hnw, hs⟩ | ⟨r', hs, ⟨rfl, m, hnw, rfl⟩ | ⟨hn1, hcs⟩⟩
          · rw [hnw] at cw
            rw [hinv, hfd, hs] at hR
            simp only [endS] at hR
            subst hR
            repeat' (first | refine W_seq ?_ | refine W_skip ?_ | refine W_block ?_ | refine W_exit ?_ | refine pick_pos rfl ?_ | refine pick_neg rfl ?_ | ((first | refine W_regP fun K hK => ?_ | refine W_regPD fun K hK => ?_ | refine W_ret ?_ | with_reducible refine callQ (cw) ?_); simp [Fin, strsD, zReq, hwi, htn, hw, hc]) | (with_reducible refine hK _ ?_; clear hK K) | (with_reducible refine goL_split (fun h => ?_) (fun h => ?_) <;> first | (exfalso; simp at h; first | done | omega | contradiction) | ((try simp at h); simp [strsD, zReq, hwi, htn, hw, hc])) | with_reducible refine And.intro ?_ ?_ | with_reducible exact okay_rfl rfl | with_reducible assumption | (refine W_cond rfl (fun h => ?_) (fun h => ?_) <;> first | (exfalso; simp at h; first | done | omega | contradiction) | (exfalso; simp_all; done) | (try simp at h)) | omega)
          · rw [hnw] at cw
            rw [num_same m hnw] at cw
            rw [hs] at hfd
            repeat' (first | refine W_seq ?_ | refine W_skip ?_ | refine W_block ?_ | refine W_exit ?_ | refine pick_pos rfl ?_ | refine pick_neg rfl ?_ | ((first | refine W_regP fun K hK => ?_ | refine W_regPD fun K hK => ?_ | refine W_ret ?_ | with_reducible refine callQ (cw) ?_); simp [Fin, strsD, zReq, hwi, htn, hw, hc]) | (with_reducible refine hK _ ?_; clear hK K) | (with_reducible refine goL_split (fun h => ?_) (fun h => ?_) <;> first | (exfalso; simp at h; first | done | omega | contradiction) | ((try simp at h); simp [strsD, zReq, hwi, htn, hw, hc])) | with_reducible refine And.intro ?_ ?_ | with_reducible exact okay_rfl rfl | with_reducible assumption | (refine W_cond rfl (fun h => ?_) (fun h => ?_) <;> first | (exfalso; simp at h; first | done | omega | contradiction) | (exfalso; simp_all; done) | (try simp at h)) | omega)
            refine ⟨g.length - (i + 1), by omega, i + 1, _, rfl, hil, hinv.trans hfd, ?_⟩
            simp [gc, closeN, liveA, gcV, gcO, renA, renAs, renO, namesAs, namesA, namesO, posn, zReq, strsD]
            exact hwj
          · rw [hs] at hfd
            clear cw
            rcases hcs with ⟨rfl, rfl⟩ | ⟨rfl, rfl⟩ | ⟨rfl, rfl, rfl⟩ | ⟨rfl, hd, rfl⟩ | ⟨rfl, rfl, rfl⟩ | ⟨rfl, hd, rfl⟩ | ⟨hn2, hn3, hn4, hn5, rfl⟩
            all_goals
              repeat' (first | refine W_seq ?_ | refine W_skip ?_ | refine W_block ?_ | refine W_exit ?_ | refine pick_pos rfl ?_ | refine pick_neg rfl ?_ | ((first | refine W_regP fun K hK => ?_ | refine W_regPD fun K hK => ?_ | refine W_ret ?_); simp [Fin, strsD, zReq, hwi, htn, hw, hc]) | (with_reducible refine hK _ ?_; clear hK K) | (with_reducible refine goL_split (fun h => ?_) (fun h => ?_) <;> first | (exfalso; simp at h; first | done | omega | contradiction) | ((try simp at h); simp [strsD, zReq, hwi, htn, hw, hc])) | with_reducible refine And.intro ?_ ?_ | with_reducible exact okay_rfl rfl | with_reducible assumption | (refine W_cond rfl (fun h => ?_) (fun h => ?_) <;> first | (exfalso; simp at h; first | done | omega | contradiction) | (exfalso; simp_all; done) | (try simp at h)) | omega)
              refine ⟨g.length - (i + 1), by omega, i + 1, _, rfl, hil, hinv.trans hfd, ?_⟩
              simp [gc, closeN, liveA, gcV, gcO, renA, renAs, renO, namesAs, namesA, namesO, posn, zReq, strsD]
              exact hwj
        · have hie : i = g.length := by omega
          subst hie
          have hfd : foldS ⟨k, t, [], [], [], 0⟩ g args = some r := by
            rw [hinv, List.drop_of_length_le (Nat.le_refl _), List.drop_of_length_le (by omega)]; rfl
          rw [hfd] at hR
          simp only [endS] at hR
          by_cases hk0 : k = 0
          · subst hk0
            rw [if_pos rfl] at hR
            have hg2 := hg0 rfl
            obtain ⟨x, y, rfl⟩ : ∃ x y, args = [x, y] := by
              match args, (show args.length = 2 by omega) with
              | [x, y], _ => exact ⟨x, y, rfl⟩
            simp only [List.getD_cons_succ, List.getD_cons_zero] at hR
            have hyl := hcm y (by simp)
            have cr := s_l19Rules_ok (GG := GG) y (by omega)
            cases hru : rulW y with
            | none =>
              rw [hru] at cr hR
              simp only at hR
              subst hR
              repeat' (first | refine W_seq ?_ | refine W_skip ?_ | refine W_block ?_ | refine W_exit ?_ | refine pick_pos rfl ?_ | refine pick_neg rfl ?_ | ((first | refine W_regP fun K hK => ?_ | refine W_regPD fun K hK => ?_ | refine W_ret ?_ | with_reducible refine callQ (cr) ?_); simp [Fin, strsD, zReq]) | (with_reducible refine hK _ ?_; clear hK K) | (with_reducible refine goL_split (fun h => ?_) (fun h => ?_) <;> first | (exfalso; simp at h; first | done | omega | contradiction) | ((try simp at h); simp [strsD, zReq])) | with_reducible refine And.intro ?_ ?_ | with_reducible exact okay_rfl rfl | with_reducible assumption | (refine W_cond rfl (fun h => ?_) (fun h => ?_) <;> first | (exfalso; simp at h; first | done | omega | contradiction) | (exfalso; simp_all; done) | (try simp at h)) | omega)
            | some d =>
              rw [hru] at cr hR
              simp only at hR
              subst hR
              repeat' (first | refine W_seq ?_ | refine W_skip ?_ | refine W_block ?_ | refine W_exit ?_ | refine pick_pos rfl ?_ | refine pick_neg rfl ?_ | ((first | refine W_regP fun K hK => ?_ | refine W_regPD fun K hK => ?_ | refine W_ret ?_ | with_reducible refine callQ (cr) ?_); simp [Fin, strsD, zReq]) | (with_reducible refine hK _ ?_; clear hK K) | (with_reducible refine goL_split (fun h => ?_) (fun h => ?_) <;> first | (exfalso; simp at h; first | done | omega | contradiction) | ((try simp at h); simp [strsD, zReq])) | with_reducible refine And.intro ?_ ?_ | with_reducible exact okay_rfl rfl | with_reducible assumption | (refine W_cond rfl (fun h => ?_) (fun h => ?_) <;> first | (exfalso; simp at h; first | done | omega | contradiction) | (exfalso; simp_all; done) | (try simp at h)) | omega)
          · rw [if_neg hk0] at hR
            subst hR
            repeat' (first | refine W_seq ?_ | refine W_skip ?_ | refine W_block ?_ | refine W_exit ?_ | refine pick_pos rfl ?_ | refine pick_neg rfl ?_ | ((first | refine W_regP fun K hK => ?_ | refine W_regPD fun K hK => ?_ | refine W_ret ?_); simp [Fin, strsD, zReq, hk0]) | (with_reducible refine hK _ ?_; clear hK K) | (with_reducible refine goL_split (fun h => ?_) (fun h => ?_) <;> first | (exfalso; simp at h; first | done | omega | contradiction) | ((try simp at h); simp [strsD, zReq, hk0])) | with_reducible refine And.intro ?_ ?_ | with_reducible exact okay_rfl rfl | with_reducible assumption | (refine W_cond rfl (fun h => ?_) (fun h => ?_) <;> first | (exfalso; simp at h; first | done | omega | contradiction) | (exfalso; simp_all; done) | (try simp at h)) | omega)
      · have hne2 : ((args.length : Int) + 1 + 1 != 2 + (g.length : Int)) = true := by simp; omega
        repeat' (first | refine W_seq ?_ | refine W_skip ?_ | refine W_block ?_ | refine W_exit ?_ | refine pick_pos rfl ?_ | refine pick_neg rfl ?_ | ((first | refine W_regP fun K hK => ?_ | refine W_regPD fun K hK => ?_ | refine W_ret ?_ | with_reducible refine callQ (cv) ?_); simp [Fin, h2', strsD, zReq, hf, hw1, hne2]) | (with_reducible refine hK _ ?_; clear hK K) | (with_reducible refine goL_split (fun h => ?_) (fun h => ?_) <;> first | (exfalso; simp at h; first | done | omega | contradiction) | ((try simp at h); simp [h2', strsD, zReq, hf, hw1, hne2])) | with_reducible refine And.intro ?_ ?_ | with_reducible exact okay_rfl rfl | with_reducible assumption | (refine W_cond rfl (fun h => ?_) (fun h => ?_) <;> first | (exfalso; simp at h; first | done | omega | contradiction) | (exfalso; simp_all; done) | (try simp at h)) | omega)
        refine ⟨Fm.length - (k + 1), by omega, k + 1, rfl, hlt, take_all hv hn (by simp [matchV]; omega), ?_⟩
        simp [gc, closeN, liveA, gcV, gcO, renA, renAs, renO, namesAs, namesA, namesO, posn, zReq, strsD]
        exact hwk
    · have hbn : (b != v) = true := by simpa using hbv
      repeat' (first | refine W_seq ?_ | refine W_skip ?_ | refine W_block ?_ | refine W_exit ?_ | refine pick_pos rfl ?_ | refine pick_neg rfl ?_ | ((first | refine W_regP fun K hK => ?_ | refine W_regPD fun K hK => ?_ | refine W_ret ?_ | with_reducible refine callQ (cv) ?_); simp [Fin, h2', strsD, zReq, hf, hw1, hbn]) | (with_reducible refine hK _ ?_; clear hK K) | (with_reducible refine goL_split (fun h => ?_) (fun h => ?_) <;> first | (exfalso; simp at h; first | done | omega | contradiction) | ((try simp at h); simp [h2', strsD, zReq, hf, hw1, hbn])) | with_reducible refine And.intro ?_ ?_ | with_reducible exact okay_rfl rfl | with_reducible assumption | (refine W_cond rfl (fun h => ?_) (fun h => ?_) <;> first | (exfalso; simp at h; first | done | omega | contradiction) | (exfalso; simp_all; done) | (try simp at h)) | omega)
      refine ⟨Fm.length - (k + 1), by omega, k + 1, rfl, hlt, take_all hv hn (by simp [matchV, hbv]), ?_⟩
      simp [gc, closeN, liveA, gcV, gcO, renA, renAs, renO, namesAs, namesA, namesO, posn, zReq, strsD]
      exact hwk
  · have hfi : Vb.findIdx? (matchV (a :: b :: args)) = none := by
      rw [List.take_of_length_le (by omega)] at hn
      exact findIdx_miss hn
    rw [hfi] at hR
    simp only at hR
    subst hR
    repeat' (first | refine W_seq ?_ | refine W_skip ?_ | refine W_block ?_ | refine W_exit ?_ | refine pick_pos rfl ?_ | refine pick_neg rfl ?_ | ((first | refine W_regP fun K hK => ?_ | refine W_regPD fun K hK => ?_ | refine W_ret ?_); simp [Fin, zReq]) | (with_reducible refine hK _ ?_; clear hK K) | (with_reducible refine goL_split (fun h => ?_) (fun h => ?_) <;> first | (exfalso; simp at h; first | done | omega | contradiction) | ((try simp at h); simp [zReq])) | with_reducible refine And.intro ?_ ?_ | with_reducible exact okay_rfl rfl | with_reducible assumption | (refine W_cond rfl (fun h => ?_) (fun h => ?_) <;> first | (exfalso; simp at h; first | done | omega | contradiction) | (exfalso; simp_all; done) | (try simp at h)) | omega)

theorem num_word {w : List UInt8} {n : Int} (h : numW w = some n) : wordB w = true := by
  obtain ⟨h1, h2, h3, _⟩ := num_of h
  have hd : ∀ b, b ∈ dsOf w → visB b = true := by
    intro b hb
    obtain ⟨i, hi⟩ := List.getElem?_of_mem hb
    obtain ⟨d, hd⟩ := Lib.digit_of_decFrom _ _ _ h3 i b hi
    obtain ⟨e1, e2, _⟩ := Lib.digitVal_eq hd
    unfold visB
    simp only [Bool.and_eq_true, decide_eq_true_eq]
    omega
  have hall : (∀ b, b ∈ w → visB b = true) ∧ w.length ≤ (dsOf w).length + 1 ∧ 1 ≤ w.length := by
    cases w with
    | nil => simp [dsOf] at h1
    | cons c r =>
      simp only [dsOf] at hd h1 ⊢
      split at hd
      · rename_i hc
        rw [if_pos hc]
        refine ⟨fun b hb => ?_, by simp, by simp⟩
        rcases List.mem_cons.1 hb with rfl | hb
        · unfold visB; simp only [Bool.and_eq_true, decide_eq_true_eq]; omega
        · exact hd b hb
      · rename_i hc
        rw [if_neg hc]
        exact ⟨hd, by simp, by simp⟩
  unfold wordB
  rw [List.all_eq_true.2 hall.1]
  unfold inB
  simp only [Bool.true_and, Bool.and_eq_true, decide_eq_true_eq]
  omega

theorem take_word {k : Int} {c : UInt8} {r r' : GReq} {w : List UInt8} (h : takeW k c r w = some r') : wordB w = true := by
  unfold takeW at h
  split at h
  · cases hn : numW w with
    | none => rw [hn] at h; cases h
    | some n => exact num_word hn
  · split at h
    · cases h
    · rename_i hb; simpa using hb

def relC (c c' : UInt8) : Prop := (c = 110 ∧ c' = 110) ∨ (c = 112 ∧ c' = 112) ∨ (c = 109 ∧ c' = 119) ∨ (c = 113 ∧ c' = 113) ∨ (c = 100 ∧ c' = 111)

def relL : List UInt8 → List UInt8 → Prop
  | [], [] => True
  | c :: cs, d :: ds => relC c d ∧ relL cs ds
  | _, _ => False

theorem take_step {k : Int} (hk : ¬ k = 0) {c c' : UInt8} (hc : relC c c') (r : GReq) {w : List UInt8} (hw : wordB w = true) : takeW k c r w = stepS c' r w := by
  unfold takeW stepS
  rcases hc with ⟨rfl, rfl⟩ | ⟨rfl, rfl⟩ | ⟨rfl, rfl⟩ | ⟨rfl, rfl⟩ | ⟨rfl, rfl⟩ <;> first | (simp [hw, hk]; done) | (simp [hw, hk]; cases numW w <;> rfl)

theorem take_fold {k : Int} (hk : ¬ k = 0) : ∀ (cs ds : List UInt8) (ws : List (List UInt8)) (r : GReq), relL cs ds → ws.length = cs.length →
    takeAll k r cs ws = if ws.all wordB = false then none else foldS r ds ws := by
  intro cs
  induction cs with
  | nil =>
    intro ds ws r hr hl
    cases ds with
    | nil =>
      cases ws with
      | nil => rfl
      | cons w ws => simp at hl
    | cons d ds => exact hr.elim
  | cons c cs ih =>
    intro ds ws r hr hl
    cases ds with
    | nil => exact hr.elim
    | cons d ds =>
      cases ws with
      | nil => simp at hl
      | cons w ws =>
        simp only [takeAll]
        by_cases hb : wordB w = true
        rotate_left
        · have hb : wordB w = false := by simpa using hb
          have : takeW k c r w = none := by
            cases ht : takeW k c r w with
            | none => rfl
            | some q => rw [take_word ht] at hb; cases hb
          rw [this, if_pos (by simp [hb])]
        · have hall : (w :: ws).all wordB = ws.all wordB := by simp [hb]
          rw [take_step hk hr.1 r hb, hall]
          simp only [foldS]
          cases stepS d r w with
          | none => simp
          | some q => exact ih ds ws q hr.2 (by simpa using hl)

theorem take_zero (t : Int) (x y : List UInt8) : takeAll 0 ⟨0, t, [], [], [], 0⟩ [109, 100] [x, y] = if [x, y].all wordB = false then none else endS 0 [[], [], x, y] (foldS ⟨0, t, [], [], [], 0⟩ [119, 111] [x, y]) := by
  cases hx : wordB x <;> cases hy : wordB y <;> simp [takeAll, takeW, foldS, stepS, endS, rulW, hx, hy]
  by_cases hd : y = [46]
  · simp [hd]
  · simp [hd]
    cases polP (cutAt 59 y) <;> rfl

theorem token_forms : (formsL.drop 11).all (fun f => !f.tok) = true ∧ (formsL.take 11).all (fun f => f.tok) = true ∧ (formsL.take 11).map (fun f => (f.word, f.rest.length)) = verbsL.map (fun v => (v.1, v.2.length)) ∧
    ∀ i : _root_.Fin 11, ∃ f v, formsL[i.1]? = some f ∧ verbsL[i.1]? = some v ∧ f.kind = i.1 ∧ f.word = v.1 ∧ wordB v.1 = true ∧ f.rest.length = v.2.length ∧ relL f.rest v.2 ∧ (i.1 = 0 → f.rest = [109, 100] ∧ v.2 = [119, 111]) := by
  refine ⟨rfl, rfl, rfl, fun i => ⟨formsL[i.1]'(by simp [formsL]; omega), verbsL[i.1]'(by simp [verbsL]), List.getElem?_eq_getElem _, List.getElem?_eq_getElem _, ?_⟩⟩
  match i with
  | ⟨0, _⟩ | ⟨1, _⟩ | ⟨2, _⟩ | ⟨3, _⟩ | ⟨4, _⟩ | ⟨5, _⟩ | ⟨6, _⟩ | ⟨7, _⟩ | ⟨8, _⟩ | ⟨9, _⟩ | ⟨10, _⟩ => exact ⟨rfl, rfl, rfl, rfl, by simp [relL, relC, formsL, verbsL], by simp [formsL, verbsL]⟩

theorem find_take {α : Type} {p : α → Bool} {l : List α} {n : Nat} (h : ∀ x, x ∈ l.drop n → p x = false) : l.find? p = (l.take n).find? p := by
  conv => lhs; rw [← List.take_append_drop n l, List.find?_append]
  have : (l.drop n).find? p = none := by rw [List.find?_eq_none]; intro x hx; rw [h x hx]; simp
  rw [this]; simp

theorem findIdx_map {α β : Type} (f : α → β) (q : β → Bool) (l : List α) : (l.map f).findIdx? q = l.findIdx? (fun x => q (f x)) := by
  induction l with
  | nil => rfl
  | cons x l ih => simp only [List.map_cons, List.findIdx?_cons, ih]

theorem find_of_idx {α : Type} {p : α → Bool} {l : List α} : l.find? p = (l.findIdx? p).bind fun i => l[i]? := by
  induction l with
  | nil => rfl
  | cons x l ih =>
    simp only [List.find?_cons, List.findIdx?_cons]
    cases p x with
    | true => simp
    | false => simp only [ih]; cases l.findIdx? p <;> simp

theorem desk_token (a b : List UInt8) (args : List (List UInt8)) (t : Int) (ha : wordB a = true) : deskU (b :: args) (some t) = if (a :: b :: args).all wordB = false then none else sp3 (a :: b :: args) t := by
  obtain ⟨h1, h2, h3, h4⟩ := token_forms
  unfold deskU sp3
  simp only [Option.isSome_some]
  have e1 : formsL.find? (matchF (b :: args) true) = (formsL.take 11).find? (matchF (b :: args) true) := find_take fun f hf => by
    have := List.all_eq_true.1 h1 f hf
    unfold matchF
    cases hft : f.tok with
    | true => rw [hft] at this; cases this
    | false => simp
  have e2 : (formsL.take 11).findIdx? (matchF (b :: args) true) = verbsL.findIdx? (matchV (a :: b :: args)) := by
    have k1 : (formsL.take 11).findIdx? (matchF (b :: args) true) = (formsL.take 11).findIdx? (fun f => (fun q : List UInt8 × Nat => b == q.1 && decide (args.length = q.2)) (f.word, f.rest.length)) := by
      have : ∀ l : List Form, l.all (fun f => f.tok) = true → l.findIdx? (matchF (b :: args) true) = l.findIdx? (fun f => b == f.word && decide (args.length = f.rest.length)) := by
        intro l
        induction l with
        | nil => intro _; rfl
        | cons f l ih =>
          intro hl
          simp only [List.all_cons, Bool.and_eq_true] at hl
          simp only [List.findIdx?_cons, ih hl.2]
          have : matchF (b :: args) true f = (b == f.word && decide (args.length = f.rest.length)) := by
            unfold matchF
            rw [hl.1]
            simp only [List.length_cons, List.head?_cons, Nat.add_right_cancel_iff, beq_self_eq_true, Bool.and_true]
            rw [Bool.and_comm]
            congr 1
          rw [this]
      exact this _ h2
    refine k1.trans ((findIdx_map (fun f : Form => (f.word, f.rest.length)) (fun q : List UInt8 × Nat => b == q.1 && decide (args.length = q.2)) _).symm.trans ?_)
    rw [h3, findIdx_map]
    congr 1
    funext v
    unfold matchV
    simp only [List.getD_cons_succ, List.getD_cons_zero, List.length_cons]
    congr 1
    exact decide_eq_decide.2 (by omega)
  rw [e1, find_of_idx, e2]
  cases hi : verbsL.findIdx? (matchV (a :: b :: args)) with
  | none => simp
  | some k =>
    obtain ⟨hk, hm, _⟩ := List.findIdx?_eq_some_iff_getElem.1 hi
    have hk11 : k < 11 := hk
    obtain ⟨f, v, hf, hv, ek, ew, hvb, el, hrel, h0⟩ := h4 ⟨k, hk11⟩
    simp only at hf hv ek h0
    have hft : (formsL.take 11)[k]? = some f := by rw [List.getElem?_take, if_pos hk11]; exact hf
    have hm : matchV (a :: b :: args) v = true := by
      have hve := hv
      rw [List.getElem?_eq_getElem hk] at hve
      rw [← Option.some.inj hve]; exact hm
    unfold matchV at hm
    simp only [List.getD_cons_succ, List.getD_cons_zero, List.length_cons, Bool.and_eq_true, beq_iff_eq, decide_eq_true_eq] at hm
    obtain ⟨rfl, hlen⟩ := hm
    have hlen : args.length = f.rest.length := by omega
    simp only [Option.bind_some, hft, hv, Option.getD_some, List.drop_succ_cons, List.drop_zero, List.all_cons, ha, hvb, Bool.true_and]
    by_cases hk0 : k = 0
    · subst hk0
      obtain ⟨r1, r2⟩ := h0 rfl
      rw [ek, r1, r2]
      rw [r1] at hlen
      match args, hlen with
      | [x, y], _ =>
        have := take_zero t x y
        simp only [endS, List.getD_cons_succ, List.getD_cons_zero] at this ⊢
        exact this
    · rw [ek, take_fold (by omega) f.rest v.2 args _ hrel hlen]
      congr 1
      unfold endS
      cases foldS ⟨(k : Int), t, [], [], [], 0⟩ v.2 args with
      | none => rfl
      | some r => simp [hk0]

theorem short_num : ∀ v, v ∈ shortV → numW v = none := by
  intro v hv
  simp only [shortV, List.mem_cons, List.not_mem_nil, or_false] at hv
  rcases hv with rfl | rfl | rfl | rfl | rfl <;> rfl

theorem sync_num : numW [115, 121, 110, 99] = none := rfl

theorem shortI_some {ws : List (List UInt8)} {k : Nat} (h : shortI ws = some k) : ∃ a b, ws = [a, b] ∧ shortV[k]? = some a := by
  unfold shortI at h
  split at h
  · rename_i hl
    match ws, hl with
    | [a, b], _ =>
      obtain ⟨h1, h2, _⟩ := List.findIdx?_eq_some_iff_getElem.1 h
      simp only [List.getD_cons_zero, beq_iff_eq] at h2
      exact ⟨a, b, rfl, by rw [List.getElem?_eq_getElem h1, ← h2]⟩
  · cases h

/-- No number ahead: the lines without a token. -/
theorem desk_plain (a : List UInt8) (args : List (List UInt8)) (hn : numW a = none) : deskU (a :: args) none = if (a :: args).all wordB = false then none else sp1 (a :: args) := by
  have e0 : deskU (a :: args) none = match (formsL.drop 11).find? (matchF (a :: args) false) with | none => none | some f => takeAll f.kind ⟨f.kind, 0, [], [], [], 0⟩ f.rest args := by
    unfold deskU
    simp only [Option.isSome_none, Option.getD_none, List.drop_succ_cons, List.drop_zero]
    congr 1
    conv => lhs; rw [← List.take_append_drop 11 formsL, List.find?_append]
    have : (formsL.take 11).find? (matchF (a :: args) false) = none := by
      rw [List.find?_eq_none]
      intro f hf
      have := List.all_eq_true.1 token_forms.2.1 f hf
      simp [matchF, this]
    rw [this]; simp
  have e2 : sp2 (a :: args) = none := by unfold sp2; split <;> simp [hn]
  have e1 : formsL.drop 11 = [⟨[111, 112, 101, 110], 11, false, [110]⟩, ⟨[116, 105, 109, 101], 12, false, [110]⟩, ⟨[102, 97, 114], 13, false, [110]⟩, ⟨[115, 121, 110, 99], 14, false, []⟩, ⟨[99, 114, 97, 115, 104], 15, false, [110]⟩] := rfl
  rw [e0, e1]
  match args with
  | [] =>
    have hs : shortI [a] = none := rfl
    unfold sp1
    by_cases ha : a = [115, 121, 110, 99]
    · subst ha; rfl
    · simp [matchF, hs, e2, ha]
  | [b] =>
    have hsy : ¬ [a, b] = [[115, 121, 110, 99]] := by simp
    unfold sp1
    rw [if_neg hsy]
    have hsi : shortI [a, b] = shortV.findIdx? (fun v => a == v) := rfl
    rw [hsi]
    have hb : ∀ k : Int, takeAll k ⟨k, 0, [], [], [], 0⟩ [110] [b] = match numW b with | some n => some ⟨k, 0, [], [], [], n⟩ | none => none := by
      intro k
      simp only [takeAll, takeW, if_true]
      cases numW b <;> rfl
    have hbw : ∀ n, numW b = some n → wordB b = true := fun n h => num_word h
    have fin : ∀ k : Int, wordB a = true → (match numW b with | some n => some (GReq.mk k 0 [] [] [] n) | none => none) = if [a, b].all wordB = false then none else (match numW b with | some n => some (GReq.mk k 0 [] [] [] n) | none => none) := by
      intro k hwa
      cases hnb : numW b with
      | none => simp
      | some n => rw [if_neg (by simp [hwa, hbw n hnb])]
    by_cases h1 : a = [111, 112, 101, 110]
    · subst h1
      refine Eq.trans (?_ : _ = takeAll 11 ⟨11, 0, [], [], [], 0⟩ [110] [b]) ((hb 11).trans (fin 11 rfl))
      rfl
    by_cases h2 : a = [116, 105, 109, 101]
    · subst h2
      refine Eq.trans (?_ : _ = takeAll 12 ⟨12, 0, [], [], [], 0⟩ [110] [b]) ((hb 12).trans (fin 12 rfl))
      rfl
    by_cases h3 : a = [102, 97, 114]
    · subst h3
      refine Eq.trans (?_ : _ = takeAll 13 ⟨13, 0, [], [], [], 0⟩ [110] [b]) ((hb 13).trans (fin 13 rfl))
      rfl
    by_cases h4 : a = []
    · subst h4; simp [matchF, wordB, inB]
    by_cases h5 : a = [99, 114, 97, 115, 104]
    · subst h5
      refine Eq.trans (?_ : _ = takeAll 15 ⟨15, 0, [], [], [], 0⟩ [110] [b]) ((hb 15).trans (fin 15 rfl))
      rfl
    have hfi : shortV.findIdx? (fun v => a == v) = none := findIdx_miss fun v hv => by
      simp only [shortV, List.mem_cons, List.not_mem_nil, or_false] at hv
      rcases hv with rfl | rfl | rfl | rfl | rfl <;> simpa using (by assumption)
    rw [hfi]
    simp [matchF, h1, h2, h3, h5, e2]
  | b :: c :: r =>
    have hs : shortI (a :: b :: c :: r) = none := by simp [shortI]
    unfold sp1
    simp [matchF, hs, e2]

theorem desk_spec (line : List UInt8) : specW line = deskW line := by
  unfold specW deskW
  split
  · rfl
  · obtain ⟨a, args, e⟩ := cutAt_ne 32 line
    rw [e]
    simp only [List.headD_cons]
    cases hn : numW a with
    | none =>
      simp only [Option.isSome_none, usOf, Bool.false_eq_true, if_false]
      exact (desk_plain a args hn).symm
    | some t =>
      simp only [Option.isSome_some, usOf, if_true, List.drop_succ_cons, List.drop_zero]
      have h1 : ¬ (a :: args) = [[115, 121, 110, 99]] := by
        intro e
        cases e
        rw [sync_num] at hn; cases hn
      have h2 : shortI (a :: args) = none := by
        cases hs : shortI (a :: args) with
        | none => rfl
        | some k =>
          obtain ⟨x, y, e1, e2⟩ := shortI_some hs
          cases e1
          rw [short_num _ (List.mem_of_getElem? e2)] at hn; cases hn
      have h3 : sp1 (a :: args) = sp2 (a :: args) := by unfold sp1; rw [if_neg h1, h2]
      cases args with
      | nil =>
        have : deskU [] (some t) = none := by
          unfold deskU
          have : formsL.find? (matchF [] true) = none := by rw [List.find?_eq_none]; intro f _; simp [matchF]
          simp only [Option.isSome_some, this]
        rw [this, h3]
        simp [sp2]
      | cons b args =>
        rw [desk_token a b args t (num_word hn), h3]
        have : sp2 (a :: b :: args) = sp3 (a :: b :: args) t := by unfold sp2; rw [if_neg (by simp)]; simp only [List.getD_cons_zero, hn]
        rw [this]

def optW (s : List UInt8) : List UInt8 := if s = [] then [46] else s

def swp (a b : UInt8) (s : List UInt8) : List UInt8 := s.map fun x => if x = a then b else x

theorem swp_len (a b : UInt8) (s : List UInt8) : (swp a b s).length = s.length := by simp [swp]

theorem replaceK_cons {b c : UInt8} (h : b ≠ c) (new : List UInt8) : ∀ (k : Nat) (l : List UInt8), Lib.replaceK [c] new k (b :: l) = b :: Lib.replaceK [c] new k l := by
  intro k l
  cases k with
  | zero => rfl
  | succ k =>
    have hp : ([c] : List UInt8).isPrefixOf (b :: l) = false := by simp [List.isPrefixOf, Ne.symm h]
    have hix : Lib.index (b :: l) [c] = if Lib.index l [c] == -1 then -1 else Lib.index l [c] + 1 := by rw [Lib.index, hp]; simp
    unfold Lib.replaceK
    rw [hix]
    have hge := Lib.index_ge l [c]
    by_cases hm : Lib.index l [c] = -1
    · rw [hm]; simp
    · obtain ⟨j, hj⟩ : ∃ j : Nat, Lib.index l [c] = j := ⟨(Lib.index l [c]).toNat, by omega⟩
      have h1 : ¬ ((j : Int) == -1) = true := fun e => by have := beq_iff_eq.1 e; omega
      have h2 : ¬ ((j : Int) + 1 == -1) = true := fun e => by have := beq_iff_eq.1 e; omega
      rw [hj, if_neg h1, if_neg h1, if_neg h2]
      have e1 : ((j : Int) + 1).toNat = j + 1 := by omega
      simp [e1]

theorem replace_swp {a b : UInt8} (hab : a ≠ b) (s : List UInt8) : Lib.replaceAll s [a] [b] = swp a b s := by
  have hk : ∀ s : List UInt8, Lib.replaceK [a] [b] (Lib.count s [a]) s = swp a b s := by
    intro s
    induction s with
    | nil => rw [Lib.count_one]; rfl
    | cons x r ih =>
      by_cases h : x = a
      · subst h
        have hix : Lib.index (x :: r) [x] = 0 := by rw [Lib.index]; simp [List.isPrefixOf]
        rw [Lib.count_cons_eq, show 1 + Lib.count r [x] = Lib.count r [x] + 1 by omega, Lib.replaceK, hix]
        simp [ih, swp]
      · rw [Lib.count_cons_ne x a r h, replaceK_cons h, ih]
        simp [swp, h]
  unfold Lib.replaceAll Lib.replace
  have hne : (([a] : List UInt8) == [b]) = false := by simp [hab]
  rw [hne]
  have hn : Lib.replaceNum s [a] (-1) = Lib.count s [a] := by unfold Lib.replaceNum; rw [if_pos (.inl (by omega))]
  simp only [Bool.false_eq_true, if_false, hn]
  exact hk s

theorem args_strs {w : World} {Fz : PSet} {args : Array Value} (ss : List (List UInt8)) (hl : args.size = (ss.map D.str).length) (hA : ∀ (i : Nat) d, (ss.map D.str)[i]? = some d → Shr w Fz (args.getD i Go.undef) d) :
    args = (ss.map fun s => Value.string ⟨s.toArray⟩).toArray := by
  refine args_eq (l := ss.map fun s => Value.string ⟨s.toArray⟩) (by simpa using hl) fun i v hv => ?_
  rw [List.getElem?_map] at hv
  obtain ⟨s, hs, rfl⟩ := Option.map_eq_some_iff.1 hv
  exact shr_str (hA i (.str s) (by simp [hs]))

theorem ReplaceAll_ok [MaxL GG] (s : List UInt8) (a b : UInt8) (hab : a ≠ b) (hs : s.length ≤ 2000000) : Valid PP GG 35 [.d (.str s), .d (.str [a]), .d (.str [b])] (.d (.str (swp a b s))) [none, none, none] := by
  refine lib_new [.str s, .str [a], .str [b]] ⟨Tryd.f35, Tryd.func35, by kernel_rfl, by kernel_rfl⟩ fun w Fz args hG hFz hl hA => ?_
  have e := args_strs [s, [a], [b]] hl hA
  subst e
  obtain ⟨ob, h1, h2⟩ := hG 1 _ MaxL.h
  cases ob with
  | cells cs t fr =>
    obtain ⟨m, h3⟩ := h2
    have hcl : Lib.countB ⟨s.toArray⟩ ⟨#[a]⟩ ≤ s.length + 1 := Lib.count_le s [a]
    refine (Go.Proofs.YtgoknpcippfjbaaDoor.Tryd.strings_ReplaceAll ⟨s.toArray⟩ ⟨#[a]⟩ ⟨#[b]⟩ m w (by show s.length < _; omega) (by unfold World.cell?; simp [h1, h3]) (Nat.le_refl 1) (by show s.length + _ * 1 ≤ _; omega)).mono ?_
    rintro e w' ⟨rfl, hb⟩
    refine ⟨_, Fz, fun _ _ => False, rfl, ⟨hb.os, hb.output⟩, hb.size, fun b h => hb.block b h, fun _ _ h => h, fun b o h => ⟨.inl h, Nat.lt_of_lt_of_le (hFz b o h) hb.size⟩, ?_, fun _ _ h => h.elim⟩
    have hr : Lib.replaceAll s [a] [b] = swp a b s := replace_swp hab s
    show RC w' Fz (.d (.str (swp a b s))) (.string ⟨(Lib.replaceAll s [a] [b]).toArray⟩) _
    rw [hr]
    exact .d _ _ _ (.str _) fun _ _ h => h
  | _ => exact h2.elim

theorem TrimSuffix_ok (s p : List UInt8) (hs : s.length ≤ 2000000) : Valid PP GG 36 [.d (.str s), .d (.str p)] (.d (.str (Lib.trimSuffix s p))) [none, none] := by
  refine lib_new [.str s, .str p] ⟨Tryd.f36, Tryd.func36, by kernel_rfl, by kernel_rfl⟩ fun w Fz args hG hFz hl hA => ?_
  have e := args_strs [s, p] hl hA
  subst e
  refine (Go.Proofs.YtgoknpcippfjbaaDoor.Tryd.strings_TrimSuffix ⟨s.toArray⟩ ⟨p.toArray⟩ w (by show s.length ≤ _; omega)).mono ?_
  rintro e w' ⟨rfl, rfl⟩
  exact ⟨_, Fz, fun _ _ => False, rfl, ⟨rfl, rfl⟩, Nat.le_refl _, fun _ _ => rfl, fun _ _ h => h, fun b o h => ⟨.inl h, hFz b o h⟩, .d _ _ _ (.str _) fun _ _ h => h, fun _ _ h => h.elim⟩

theorem optional_ok (s : List UInt8) : Valid PP GG F_I_optional [.d (.str s)] (.d (.str (optW s))) [none] := by
  refine v_I_optional [.d (.str (optW s))] rfl rfl ?_
  by_cases h : s = []
  · subst h
    repeat' (first | refine W_seq ?_ | refine W_skip ?_ | refine W_block ?_ | refine W_exit ?_ | refine pick_pos rfl ?_ | refine pick_neg rfl ?_ | ((first | refine W_regP fun K hK => ?_ | refine W_regPD fun K hK => ?_ | refine W_ret ?_); simp [Fin, optW]) | (with_reducible refine hK _ ?_; clear hK K) | (with_reducible refine goL_split (fun h => ?_) (fun h => ?_) <;> first | (exfalso; simp at h; first | done | omega | contradiction) | ((try simp at h); simp [optW])) | with_reducible refine And.intro ?_ ?_ | with_reducible exact okay_rfl rfl | with_reducible assumption | (refine W_cond rfl (fun h => ?_) (fun h => ?_) <;> first | (exfalso; simp at h; first | done | omega | contradiction) | (exfalso; simp_all; done) | (try simp at h)) | omega)
  · have hb : (s == []) = false := by simpa using h
    have : optW s = s := if_neg h
    rw [this]
    repeat' (first | refine W_seq ?_ | refine W_skip ?_ | refine W_block ?_ | refine W_exit ?_ | refine pick_pos rfl ?_ | refine pick_neg rfl ?_ | ((first | refine W_regP fun K hK => ?_ | refine W_regPD fun K hK => ?_ | refine W_ret ?_); simp [Fin, hb]) | (with_reducible refine hK _ ?_; clear hK K) | (with_reducible refine goL_split (fun h => ?_) (fun h => ?_) <;> first | (exfalso; simp at h; first | done | omega | contradiction) | ((try simp at h); simp [hb])) | with_reducible refine And.intro ?_ ?_ | with_reducible exact okay_rfl rfl | with_reducible assumption | (refine W_cond rfl (fun h => ?_) (fun h => ?_) <;> first | (exfalso; simp at h; first | done | omega | contradiction) | (exfalso; simp_all; done) | (try simp at h)) | omega)

theorem s_l19Opt_ok (s : List UInt8) : Valid PP GG F_S_l19Opt [.d (.str s)] (.d (.str (optW s))) [none] := by
  refine v_S_l19Opt [.d (.str (optW s))] rfl rfl ?_
  by_cases h : s = []
  · subst h
    repeat' (first | refine W_seq ?_ | refine W_skip ?_ | refine W_block ?_ | refine W_exit ?_ | refine pick_pos rfl ?_ | refine pick_neg rfl ?_ | ((first | refine W_regP fun K hK => ?_ | refine W_regPD fun K hK => ?_ | refine W_ret ?_); simp [Fin, optW]) | (with_reducible refine hK _ ?_; clear hK K) | (with_reducible refine goL_split (fun h => ?_) (fun h => ?_) <;> first | (exfalso; simp at h; first | done | omega | contradiction) | ((try simp at h); simp [optW])) | with_reducible refine And.intro ?_ ?_ | with_reducible exact okay_rfl rfl | with_reducible assumption | (refine W_cond rfl (fun h => ?_) (fun h => ?_) <;> first | (exfalso; simp at h; first | done | omega | contradiction) | (exfalso; simp_all; done) | (try simp at h)) | omega)
  · have hb : (s == []) = false := by simpa using h
    have : optW s = s := if_neg h
    rw [this]
    repeat' (first | refine W_seq ?_ | refine W_skip ?_ | refine W_block ?_ | refine W_exit ?_ | refine pick_pos rfl ?_ | refine pick_neg rfl ?_ | ((first | refine W_regP fun K hK => ?_ | refine W_regPD fun K hK => ?_ | refine W_ret ?_); simp [Fin, hb]) | (with_reducible refine hK _ ?_; clear hK K) | (with_reducible refine goL_split (fun h => ?_) (fun h => ?_) <;> first | (exfalso; simp at h; first | done | omega | contradiction) | ((try simp at h); simp [hb])) | with_reducible refine And.intro ?_ ?_ | with_reducible exact okay_rfl rfl | with_reducible assumption | (refine W_cond rfl (fun h => ?_) (fun h => ?_) <;> first | (exfalso; simp at h; first | done | omega | contradiction) | (exfalso; simp_all; done) | (try simp at h)) | omega)

def unF : List (List UInt8) → List UInt8
  | [] => []
  | p :: r => swp 32 61 p ++ r.flatMap fun q => 59 :: swp 32 61 q

def unrul (d : List UInt8) : List UInt8 := if d = [] then [46] else unF (cutAt 10 d).dropLast

theorem unF_succ {l : List (List UInt8)} {i : Nat} {p : List UInt8} (h : l[i]? = some p) : unF (l.take (i + 1)) = unF (l.take i) ++ (if i = 0 then [] else [59]) ++ swp 32 61 p := by
  cases l with
  | nil => simp at h
  | cons q r =>
    cases i with
    | zero => simp at h; subst h; simp [unF]
    | succ j =>
      simp only [List.getElem?_cons_succ] at h
      simp only [List.take_succ_cons, unF]
      rw [List.take_add_one, h]
      simp [List.flatMap_append]

theorem unF_len {m : Nat} : ∀ (l : List (List UInt8)), (∀ p, p ∈ l → p.length ≤ m) → (unF l).length ≤ l.length * (m + 1) := by
  intro l h
  cases l with
  | nil => simp [unF]
  | cons p r =>
    simp only [unF, List.length_append, swp_len, List.length_cons]
    have h1 := h p (by simp)
    have h2 : (r.flatMap fun q => 59 :: swp 32 61 q).length ≤ r.length * (m + 1) := by
      have hr : ∀ q, q ∈ r → q.length ≤ m := fun q hq => h q (by simp [hq])
      clear h h1
      induction r with
      | nil => simp
      | cons q r ih =>
        simp only [List.flatMap_cons, List.length_append, List.length_cons, swp_len]
        have := hr q (by simp)
        have := ih fun x hx => hr x (by simp [hx])
        rw [Nat.add_mul]; omega
    rw [Nat.add_mul]; omega

theorem swp_take {p : List UInt8} {k : Nat} {x : UInt8} (h : p[k]? = some x) : swp 32 61 (p.take (k + 1)) = swp 32 61 (p.take k) ++ [if x = 32 then 61 else x] := by
  rw [List.take_add_one, h]; simp [swp]

theorem s_l19Unrules_ok (s : List UInt8) (hs : s.length ≤ 1048576) : Valid PP GG F_S_l19Unrules [.d (.str s)] (.d (.str (unrul s))) [none] := by
  refine v_S_l19Unrules [.d (.str (unrul s))] rfl rfl ?_
  by_cases h0 : s = []
  · subst h0
    repeat' (first | refine W_seq ?_ | refine W_skip ?_ | refine W_block ?_ | refine W_exit ?_ | refine pick_pos rfl ?_ | refine pick_neg rfl ?_ | ((first | refine W_regP fun K hK => ?_ | refine W_regPD fun K hK => ?_ | refine W_ret ?_); simp [Fin, unrul]) | (with_reducible refine hK _ ?_; clear hK K) | (with_reducible refine goL_split (fun h => ?_) (fun h => ?_) <;> first | (exfalso; simp at h; first | done | omega | contradiction) | ((try simp at h); simp [unrul])) | with_reducible refine And.intro ?_ ?_ | with_reducible exact okay_rfl rfl | with_reducible assumption | (refine W_cond rfl (fun h => ?_) (fun h => ?_) <;> first | (exfalso; simp at h; first | done | omega | contradiction) | (exfalso; simp_all; done) | (try simp at h)) | omega)
  have hb0 : (s == []) = false := by simpa using h0
  have hu : unrul s = unF (cutAt 10 s).dropLast := if_neg h0
  rw [hu]
  have cs := l01Parts_ok (GG := GG) s 10 (by omega)
  change Valid PP GG F_S_l01Parts [.d (.str s), .d (.int .u8 10)] _ _ at cs
  have hcl := cutAt_len 10 s
  have hcm : ∀ p, p ∈ cutAt 10 s → p.length ≤ s.length := fun p => cutAt_mem s
  obtain ⟨p0, ps0, hps⟩ := cutAt_ne 10 s
  have hlp : 1 ≤ (cutAt 10 s).length := by rw [hps]; simp
  clear hps
  generalize cutAt 10 s = l at *
  have hdl : l.dropLast = l.take (l.length - 1) := List.dropLast_eq_take
  rw [hdl]
  have hind := ind_strs l
  repeat' (first | refine W_seq ?_ | refine W_skip ?_ | refine W_block ?_ | refine W_exit ?_ | refine pick_pos rfl ?_ | refine pick_neg rfl ?_ | ((first | refine W_regP fun K hK => ?_ | refine W_regPD fun K hK => ?_ | refine W_ret ?_ | with_reducible refine callQ (cs) ?_); simp [Fin, hb0]) | (with_reducible refine hK _ ?_; clear hK K) | (with_reducible refine goL_split (fun h => ?_) (fun h => ?_) <;> first | (exfalso; simp at h; first | done | omega | contradiction) | ((try simp at h); simp [hb0])) | with_reducible refine And.intro ?_ ?_ | with_reducible exact okay_rfl rfl | with_reducible assumption | (refine W_cond rfl (fun h => ?_) (fun h => ?_) <;> first | (exfalso; simp at h; first | done | omega | contradiction) | (exfalso; simp_all; done) | (try simp at h)) | omega)
  refine W_loop (fun n st => ∃ (i : Nat), n = (l.length - 1) - i ∧ i ≤ l.length - 1 ∧ st = ⟨[], [(3, .sl 0), (4, .sl 1), (5, .d (.int .i64 i))], [(0, .arr 0 0 1 (strsD l)), (1, .arr 0 0 1 (bytesD (unF (l.take i))))], 2⟩) _ ⟨0, rfl, by omega, rfl⟩ ?_
  rintro n st ⟨i, rfl, hi, rfl⟩
  have hw1 : IntKind.i64.wrap ((l.length : Int) - 1) = ((l.length - 1 : Nat) : Int) := by rw [wrap_id (by omega) (by omega)]; omega
  by_cases hlt : i < l.length - 1
  · have ha := List.getElem?_eq_getElem (show i < l.length by omega)
    generalize l[i]'_ = p at ha
    have hpl := hcm p (List.mem_of_getElem? ha)
    have hsn := unF_succ ha
    have hdl := unF_len (m := s.length) (l.take i) fun q hq => hcm q (List.mem_of_mem_take hq)
    have hdl2 : (l.take i).length * (s.length + 1) ≤ 1048577 * 1048577 := Nat.mul_le_mul (by rw [List.length_take]; omega) (by omega)
    have hli : (decide ((i : Int) < ((l.length - 1 : Nat) : Int))) = true := decide_eq_true (by omega)
    refine W_cut [3, 4, 5] (fun st => st = ⟨[], [(3, .sl 0), (4, .sl 1), (5, .d (.int .i64 i))], [(0, .arr 0 0 1 (strsD l)), (1, .arr 0 0 1 (bytesD (unF (l.take i))))], 2⟩) ?_ ?_
    · repeat' (first | refine W_seq ?_ | refine W_skip ?_ | refine W_block ?_ | refine W_exit ?_ | refine pick_pos rfl ?_ | refine pick_neg rfl ?_ | ((first | refine W_regP fun K hK => ?_ | refine W_regPD fun K hK => ?_ | refine W_ret ?_); simp [Fin, hw1, hli]) | (with_reducible refine hK _ ?_; clear hK K) | (with_reducible refine goL_split (fun h => ?_) (fun h => ?_) <;> first | (exfalso; simp at h; first | done | omega | contradiction) | ((try simp at h); simp [hw1, hli])) | with_reducible refine And.intro ?_ ?_ | with_reducible exact okay_rfl rfl | with_reducible assumption | (refine W_cond rfl (fun h => ?_) (fun h => ?_) <;> first | (exfalso; simp at h; first | done | omega | contradiction) | (exfalso; simp_all; done) | (try simp at h)) | omega)
      simp [gc, closeN, liveA, gcV, gcO, renA, renAs, renO, namesAs, namesA, namesO, posn]
    rintro st rfl
    refine W_seq (?_)
    refine W_block ?_
    refine W_cut [3, 4, 5] (fun st => st = ⟨[], [(3, .sl 0), (4, .sl 1), (5, .d (.int .i64 i))], [(0, .arr 0 0 1 (strsD l)), (1, .arr 0 0 1 (bytesD (unF (l.take i) ++ if i = 0 then [] else [59])))], 2⟩) ?_ ?_
    · by_cases hi0 : i = 0
      · subst hi0
        repeat' (first | refine W_seq ?_ | refine W_skip ?_ | refine W_block ?_ | refine W_exit ?_ | refine pick_pos rfl ?_ | refine pick_neg rfl ?_ | ((first | refine W_regP fun K hK => ?_ | refine W_regPD fun K hK => ?_ | refine W_ret ?_); simp [Fin]) | (with_reducible refine hK _ ?_; clear hK K) | (with_reducible refine goL_split (fun h => ?_) (fun h => ?_) <;> first | (exfalso; simp at h; first | done | omega | contradiction) | ((try simp at h); simp)) | with_reducible refine And.intro ?_ ?_ | with_reducible exact okay_rfl rfl | with_reducible assumption | (refine W_cond rfl (fun h => ?_) (fun h => ?_) <;> first | (exfalso; simp at h; first | done | omega | contradiction) | (exfalso; simp_all; done) | (try simp at h)) | omega)
        simp [gc, closeN, liveA, gcV, gcO, renA, renAs, renO, namesAs, namesA, namesO, posn]
      · have hip : 0 < i := by omega
        repeat' (first | refine W_seq ?_ | refine W_skip ?_ | refine W_block ?_ | refine W_exit ?_ | refine pick_pos rfl ?_ | refine pick_neg rfl ?_ | ((first | refine W_regP fun K hK => ?_ | refine W_regPD fun K hK => ?_ | refine W_ret ?_); simp [Fin, limit, hip]) | (with_reducible refine hK _ ?_; clear hK K) | (with_reducible refine goL_split (fun h => ?_) (fun h => ?_) <;> first | (exfalso; simp at h; first | done | omega | contradiction) | ((try simp at h); simp [limit, hip])) | with_reducible refine And.intro ?_ ?_ | with_reducible exact okay_rfl rfl | with_reducible assumption | (refine W_cond rfl (fun h => ?_) (fun h => ?_) <;> first | (exfalso; simp at h; first | done | omega | contradiction) | (exfalso; simp_all; done) | (try simp at h)) | omega)
        simp [gc, closeN, liveA, gcV, gcO, renA, renAs, renO, namesAs, namesA, namesO, posn, hi0, bytesD]
    rintro st rfl
    generalize hpre : (unF (l.take i) ++ if i = 0 then [] else [59]) = d at hsn ⊢
    have hdll : d.length ≤ 1099513724930 := by rw [← hpre, List.length_append]; split <;> simp <;> omega
    repeat' (first | refine W_seq ?_ | refine W_skip ?_ | refine W_block ?_ | refine W_exit ?_ | refine pick_pos rfl ?_ | refine pick_neg rfl ?_ | ((first | refine W_regP fun K hK => ?_ | refine W_regPD fun K hK => ?_ | refine W_ret ?_); simp [Fin]) | (with_reducible refine hK _ ?_; clear hK K) | (with_reducible refine goL_split (fun h => ?_) (fun h => ?_) <;> first | (exfalso; simp at h; first | done | omega | contradiction) | ((try simp at h); simp)) | with_reducible refine And.intro ?_ ?_ | with_reducible exact okay_rfl rfl | with_reducible assumption | (refine W_cond rfl (fun h => ?_) (fun h => ?_) <;> first | (exfalso; simp at h; first | done | omega | contradiction) | (exfalso; simp_all; done) | (try simp at h)) | omega)
    refine W_loop (fun n st => ∃ (q : Nat), n = p.length - q ∧ q ≤ p.length ∧ st = ⟨[], [(3, .sl 0), (4, .sl 1), (5, .d (.int .i64 i)), (6, .d (.int .i64 q))], [(0, .arr 0 0 1 (strsD l)), (1, .arr 0 0 1 (bytesD (d ++ swp 32 61 (p.take q))))], 2⟩) _ ⟨0, rfl, by omega, by simp [swp]; rfl⟩ ?_
    rintro n st ⟨q, rfl, hq, rfl⟩
    by_cases hql : q < p.length
    · have hb := List.getElem?_eq_getElem hql
      generalize p[q] = y at hb
      have hst := swp_take hb
      by_cases hy : y = 32
      · subst hy
        rw [if_pos rfl] at hst
        repeat' (first | refine W_seq ?_ | refine W_skip ?_ | refine W_block ?_ | refine W_exit ?_ | refine pick_pos rfl ?_ | refine pick_neg rfl ?_ | ((first | refine W_regP fun K hK => ?_ | refine W_regPD fun K hK => ?_ | refine W_ret ?_); simp [Fin, ha, hb, limit, swp_len]) | (with_reducible refine hK _ ?_; clear hK K) | (with_reducible refine goL_split (fun h => ?_) (fun h => ?_) <;> first | (exfalso; simp at h; first | done | omega | contradiction) | ((try simp at h); simp [ha, hb, limit, swp_len])) | with_reducible refine And.intro ?_ ?_ | with_reducible exact okay_rfl rfl | with_reducible assumption | (refine W_cond rfl (fun h => ?_) (fun h => ?_) <;> first | (exfalso; simp at h; first | done | omega | contradiction) | (exfalso; simp_all; done) | (try simp at h)) | omega)
        all_goals (refine ⟨p.length - (q + 1), by omega, q + 1, rfl, hql, ?_⟩; rw [hst])
        all_goals (simp [gc, closeN, liveA, gcV, gcO, renA, renAs, renO, namesAs, namesA, namesO, posn]; exact ⟨wrap_id (by omega) (by omega), by simp [bytesD]⟩)
      · rw [if_neg hy] at hst
        have hyn : ¬ y.toNat = 32 := u8_ne hy
        repeat' (first | refine W_seq ?_ | refine W_skip ?_ | refine W_block ?_ | refine W_exit ?_ | refine pick_pos rfl ?_ | refine pick_neg rfl ?_ | ((first | refine W_regP fun K hK => ?_ | refine W_regPD fun K hK => ?_ | refine W_ret ?_); simp [Fin, ha, hb, limit, swp_len]) | (with_reducible refine hK _ ?_; clear hK K) | (with_reducible refine goL_split (fun h => ?_) (fun h => ?_) <;> first | (exfalso; simp at h; first | done | omega | contradiction) | ((try simp at h); simp [ha, hb, limit, swp_len])) | with_reducible refine And.intro ?_ ?_ | with_reducible exact okay_rfl rfl | with_reducible assumption | (refine W_cond rfl (fun h => ?_) (fun h => ?_) <;> first | (exfalso; simp at h; first | done | omega | contradiction) | (exfalso; simp_all; done) | (try simp at h)) | omega)
        all_goals (refine ⟨p.length - (q + 1), by omega, q + 1, rfl, hql, ?_⟩; rw [hst])
        all_goals (simp [gc, closeN, liveA, gcV, gcO, renA, renAs, renO, namesAs, namesA, namesO, posn]; exact ⟨wrap_id (by omega) (by omega), by simp [bytesD]⟩)
    · rw [List.take_of_length_le (by omega)]
      repeat' (first | refine W_seq ?_ | refine W_skip ?_ | refine W_block ?_ | refine W_exit ?_ | refine pick_pos rfl ?_ | refine pick_neg rfl ?_ | ((first | refine W_regP fun K hK => ?_ | refine W_regPD fun K hK => ?_ | refine W_ret ?_); simp [Fin, ha]) | (with_reducible refine hK _ ?_; clear hK K) | (with_reducible refine goL_split (fun h => ?_) (fun h => ?_) <;> first | (exfalso; simp at h; first | done | omega | contradiction) | ((try simp at h); simp [ha])) | with_reducible refine And.intro ?_ ?_ | with_reducible exact okay_rfl rfl | with_reducible assumption | (refine W_cond rfl (fun h => ?_) (fun h => ?_) <;> first | (exfalso; simp at h; first | done | omega | contradiction) | (exfalso; simp_all; done) | (try simp at h)) | omega)
      refine ⟨l.length - 1 - (i + 1), by omega, i + 1, rfl, by omega, ?_⟩
      rw [hsn]
      simp [gc, closeN, liveA, gcV, gcO, renA, renAs, renO, namesAs, namesA, namesO, posn]
      exact wrap_id (by omega) (by omega)
  · have hie : i = l.length - 1 := by omega
    subst hie
    have hli : (decide (((l.length - 1 : Nat) : Int) < ((l.length - 1 : Nat) : Int))) = false := decide_eq_false (by omega)
    repeat' (first | refine W_seq ?_ | refine W_skip ?_ | refine W_block ?_ | refine W_exit ?_ | refine pick_pos rfl ?_ | refine pick_neg rfl ?_ | ((first | refine W_regP fun K hK => ?_ | refine W_regPD fun K hK => ?_ | refine W_ret ?_); simp [Fin, hw1, hli, strOf_bytesD]) | (with_reducible refine hK _ ?_; clear hK K) | (with_reducible refine goL_split (fun h => ?_) (fun h => ?_) <;> first | (exfalso; simp at h; first | done | omega | contradiction) | ((try simp at h); simp [hw1, hli, strOf_bytesD])) | with_reducible refine And.intro ?_ ?_ | with_reducible exact okay_rfl rfl | with_reducible assumption | (refine W_cond rfl (fun h => ?_) (fun h => ?_) <;> first | (exfalso; simp at h; first | done | omega | contradiction) | (exfalso; simp_all; done) | (try simp at h)) | omega)

def wordI (k : Int) (c : UInt8) (r : GReq) : List UInt8 :=
  if c = 110 then Lib.itoa r.fNum else if c = 112 then r.fPath else if c = 109 then r.fName else if c = 113 then optW r.fPath
  else if k = 0 ∧ r.fData ≠ [] then swp 32 61 (swp 10 59 (Lib.trimSuffix r.fData [10])) else optW r.fData

def headF (f : Form) (r : GReq) : List UInt8 := if f.tok = true then Lib.itoa r.fToken ++ [32] ++ f.word else f.word

def lineF (f : Form) (r : GReq) (n : Nat) : List UInt8 := headF f r ++ (f.rest.take n).flatMap fun c => 32 :: wordI f.kind c r

def lineI (r : GReq) : List UInt8 := if (decide (0 ≤ r.fKind) && decide (r.fKind ≤ 15)) = true then (match formsL[r.fKind.toNat]? with | some f => lineF f r f.rest.length | none => []) else []

def reqM (r : GReq) : Prop := int64 r.fToken ∧ int64 r.fNum ∧ r.fName.length ≤ 1048576 ∧ r.fPath.length ≤ 1048576 ∧ r.fData.length ≤ 1048576

theorem optW_len (s : List UInt8) : (optW s).length ≤ s.length + 1 := by unfold optW; split <;> simp

theorem trimSuffix_len (s p : List UInt8) : (Lib.trimSuffix s p).length ≤ s.length := by
  unfold Lib.trimSuffix
  split
  · rw [List.length_take]; omega
  · exact Nat.le_refl _

theorem wordI_len {r : GReq} (hr : reqM r) (k : Int) (c : UInt8) : (wordI k c r).length ≤ 1048580 := by
  obtain ⟨h1, h2, h3, h4, h5⟩ := hr
  have l1 := Lib.itoa_length_le r.fNum h2.1 h2.2
  have l2 := optW_len r.fPath
  have l3 := optW_len r.fData
  have l4 := trimSuffix_len r.fData [10]
  unfold wordI
  repeat' split
  all_goals (try simp only [swp_len]) ; try omega

theorem lineF_succ {f : Form} {r : GReq} {i : Nat} {c : UInt8} (h : f.rest[i]? = some c) : lineF f r (i + 1) = lineF f r i ++ 32 :: wordI f.kind c r := by
  unfold lineF
  rw [List.take_add_one, h]
  simp [List.flatMap_append]

theorem headF_len {f : Form} {r : GReq} (hr : reqM r) (hf : f.word.length ≤ 20) : (headF f r).length ≤ 42 := by
  have l1 := Lib.itoa_length_le r.fToken hr.1.1 hr.1.2
  unfold headF
  split
  · simp; omega
  · omega

theorem lineF_len {f : Form} {r : GReq} (hr : reqM r) (hf : f.word.length ≤ 20) : ∀ i, (lineF f r i).length ≤ 42 + i * 1048581 := by
  have h0 := headF_len hr hf
  have key : ∀ l : List UInt8, (l.flatMap fun c => 32 :: wordI f.kind c r).length ≤ l.length * 1048581 := by
    intro l
    induction l with
    | nil => simp
    | cons c l ih =>
      have := wordI_len hr f.kind c
      simp only [List.flatMap_cons, List.length_append, List.length_cons]
      rw [Nat.add_mul]; omega
  intro i
  have h1 := key (f.rest.take i)
  have h2 : (f.rest.take i).length * 1048581 ≤ i * 1048581 := Nat.mul_le_mul_right _ (by rw [List.length_take]; omega)
  unfold lineF
  rw [List.length_append]
  omega

theorem forms_small2 : ∀ f, f ∈ formsL → f.rest.length ≤ 3 ∧ f.word.length ≤ 20 := by decide

end Go.Proofs.YtgoknpcippfjbaaDoor.Ab

