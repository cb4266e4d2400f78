/-
  A part of a proof about the given program; what is proved is said where each theorem stands.
-/
import Derived.ProofKit
import Derived.Sort.Grow
import Derived.Deep.Draws
import Derived.Handed
import Derived.Shelf.Vars
import Derived.Shelf.SlicesE.Delete
import Derived.Shelf.SlLaysE0
import Derived.Deep.MidRow
import Derived.Shelf.SlicesE.Clone
import Derived.KernelRfl
import Derived.Test.YtbjmakmahooaiaaGreatFrameA
import Derived.Test.YtbjmakmahooaiaaGreatFrameB
import Derived.Test.YtbjmakmahooaiaaGreatFrameC
namespace Go.Proofs.YtbjmakmahooaiaaGreat.Ab
theorem fn_valid_n {P : Program} {G : GV} {f : FuncId} {fn : Func} (nc nr : Nat) (vl : List Nat) (ac : ACode) (rs : List (Mode × Nat × Option (Bool × Nat))) (om : List (Option Mode)) (rcs : List C) {cs : List C} {r : C} {os : List (Option C)}
    (hf : P.funcs[f]? = some fn) (hb : fn.body.isSome = true) (hname : (fn.name == "runtime.NumGoroutine") = false) (hr : resOk P fn.results.toList rs = true) (hcomp : comp P (fn.ntmps, pinOf 0 om) vl (fn.body.getD .skip) = some ac.erase)
    (hvl : ((List.range nc).all vl.contains) = true) (hn : decide (nc ≤ fn.ntmps ∧ om.length ≤ nc ∧ nr = rs.length) = true) (hN : (cs.length == nc && rcs.length == nr) = true) (hret : retOf rcs = r)
    (hW : W P vl (fn.ntmps, pinOf 0 om) (Valid P G) ac (entry cs) (Fin (Valid P G) rs om rcs os) (fun _ _ => False) (Fin (Valid P G) rs om rcs os)) : Valid P G f cs r os := by
  simp only [Bool.and_eq_true, beq_iff_eq] at hN
  obtain ⟨e1, e2⟩ := hN
  subst e1 e2
  obtain ⟨h1, h2, h4⟩ := of_decide_eq_true hn
  rw [List.all_eq_true] at hvl
  obtain ⟨code, hc⟩ := Option.isSome_iff_exists.1 hb
  rw [hc] at hcomp
  subst hret
  exact valid_of hf hc hname (rv := fn.results.toList) rfl hr hcomp (fun m hm => by simpa using hvl m (by simpa using hm)) h1 h2 h4 (fun _ _ _ _ h => h) (WS.mono hW fun ex st hk => by
    cases ex with
    | norm => exact ⟨.inl rfl, hk⟩
    | exit id => exact hk.elim
    | ret => exact ⟨.inr rfl, hk⟩)
end Go.Proofs.YtbjmakmahooaiaaGreat.Ab

namespace Go.Proofs.YtbjmakmahooaiaaGreat.Ab
attribute [simp] splitA opRun stepOp ev out St.app wtOf put del look setO setCells setDs cellsOf partOk A.cellB packA rowCells loadA takeCells storeA idxAA lenA ofOpt fldA fieldA idxSA unA sliceSA sliceAA extA nchkA asInt' bnd boxA pickA mmA
attribute [simp] openC openC.openL markA mkIA lendCell lendCells giveCell giveCells ownA closeArg closeArgs closeD backCell backCells backLend backBox backArg backArgs nodupB apartB doneA callA srcA appCore appA partsA partsB litCells litRows hasShared buildA buildOp appSA mkA litA s2bA rowsAt setAt RM.mapM isSlc
attribute [simp] aggEq scEq
attribute [simp] resLoad slotsA numOut exitA closeOuts retOf number entry
attribute [simp] IndOs IndCs IndC IndD
def kC {α : Type} (K : α → List Loc → Prop) (x : Loc) : α → List Loc → Prop := fun r l => K r (x :: l)
def kL {α : Type} (K : α → List Loc → Prop) (l : List Loc) : α → List Loc → Prop := fun r l' => K r (l ++ l')
def kB {α β : Type} (e : Env) (f : β → RM α) (K : α → List Loc → Prop) : β → List Loc → Prop := fun a l => goL e (f a) (kL K l)
def kS (V : FuncId → List C → C → List (Option C) → Prop) (base i : Nat) (o : AOper) (r : List AOper) (st : St) (K : St → Prop) : Wr → List Loc → Prop := fun wr _ => regS V base (i + 1) r (st.app o.dst wr) K
def kD (V : FuncId → List C → C → List (Option C) → Prop) (base i : Nat) (o : AOper) (r : List AOper) (logs : List (List Loc × List Loc)) (acc : Bool) (st : St) (K : St → Prop) : Wr → List Loc → Prop :=
  fun wr l => regD V base (i + 1) r ((l, wtOf o.dst wr) :: logs) (andB acc (confR o.after l (wtOf o.dst wr) logs)) (st.app o.dst wr) K
def CallQ {α : Type} (V : FuncId → List C → C → List (Option C) → Prop) (e : Env) (f : FuncId) (cs : List C) (k : C → List (Option C) → RM α) (K : α → List Loc → Prop) : Prop := ∃ c os, V f cs c os ∧ goL e (k c os) K
section
variable {α β : Type} {e : Env} {K : α → List Loc → Prop}
@[simp] theorem kC_app {x : Loc} {r : α} {l : List Loc} : kC K x r l = K r (x :: l) := id rfl
@[simp] theorem kL_app {r : α} {l l' : List Loc} : kL K l r l' = K r (l ++ l') := id rfl
@[simp] theorem kB_app {f : β → RM α} {a : β} {l : List Loc} : kB e f K a l = goL e (f a) (kL K l) := id rfl
@[simp] theorem kS_app {V : FuncId → List C → C → List (Option C) → Prop} {base i : Nat} {o : AOper} {r : List AOper} {st : St} {K : St → Prop} {wr : Wr} {l : List Loc} : kS V base i o r st K wr l = regS V base (i + 1) r (st.app o.dst wr) K := id rfl
@[simp] theorem kD_app {V : FuncId → List C → C → List (Option C) → Prop} {base i : Nat} {o : AOper} {r : List AOper} {logs : List (List Loc × List Loc)} {acc : Bool} {st : St} {K : St → Prop} {wr : Wr} {l : List Loc} :
    kD V base i o r logs acc st K wr l = regD V base (i + 1) r ((l, wtOf o.dst wr) :: logs) (andB acc (confR o.after l (wtOf o.dst wr) logs)) (st.app o.dst wr) K := id rfl
@[simp] theorem regS_nil {V : FuncId → List C → C → List (Option C) → Prop} {base i : Nat} {st : St} {K : St → Prop} : regS V base i [] st K = K st := id rfl
@[simp] theorem regS_cons {V : FuncId → List C → C → List (Option C) → Prop} {base i : Nat} {o : AOper} {r : List AOper} {st : St} {K : St → Prop} : regS V base i (o :: r) st K = goL (st.env V) (opRun (base + 64 * i) o) (kS V base i o r st K) := id rfl
@[simp] theorem regD_nil {V : FuncId → List C → C → List (Option C) → Prop} {base i : Nat} {logs : List (List Loc × List Loc)} {acc : Bool} {st : St} {K : St → Prop} : regD V base i [] logs acc st K = (Okay acc ∧ K st) := id rfl
@[simp] theorem regD_cons {V : FuncId → List C → C → List (Option C) → Prop} {base i : Nat} {o : AOper} {r : List AOper} {logs : List (List Loc × List Loc)} {acc : Bool} {st : St} {K : St → Prop} :
    regD V base i (o :: r) logs acc st K = goL (st.env V) (opRun (base + 64 * i) o) (kD V base i o r logs acc st K) := id rfl
@[simp ↓] theorem goL_ret {a : α} : goL e (.ret a) K = K a [] := id rfl
@[simp ↓] theorem goL_fail : goL e .fail K = False := id rfl
@[simp ↓] theorem goL_rs {v : Bool} {s : Nat} {k : A → RM α} : goL e (.rs v s k) K = match e.sl v s with | some x => goL e (k x) (kC K (.slot v s)) | none => False := by simp only [goL]; cases e.sl v s <;> rfl
@[simp ↓] theorem goL_rh {n : Nat} {k : O → RM α} : goL e (.rh n k) K = match e.h n with | some o => goL e (k o) (kC K (.obj n)) | none => False := by simp only [goL]; cases e.h n <;> rfl
theorem goL_ite {b : Bool} {x y : RM α} : goL e (.ite b x y) K = ((b = true → goL e x K) ∧ (b = false → goL e y K)) := id rfl
@[simp ↓] theorem goL_ite_true {x y : RM α} : goL e (.ite true x y) K = goL e x K := by rw [goL_ite]; simp
@[simp ↓] theorem goL_ite_false {x y : RM α} : goL e (.ite false x y) K = goL e y K := by rw [goL_ite]; simp
theorem goL_split {b : Bool} {x y : RM α} (h1 : b = true → goL e x K) (h2 : b = false → goL e y K) : goL e (.ite b x y) K := ⟨h1, h2⟩
@[simp ↓] theorem goL_need {p : Prop} {k : RM α} : goL e (.need p k) K = (p ∧ goL e k K) := id rfl
@[simp ↓] theorem goL_call {st : St} {V : FuncId → List C → C → List (Option C) → Prop} {f : FuncId} {cs : List C} {k : C → List (Option C) → RM α} : goL (st.env V) (.call f cs k) K = CallQ V (st.env V) f cs k K := id rfl
theorem goL_bind' {m : RM β} {f : β → RM α} : ∀ {K : α → List Loc → Prop}, goL e (m.bind f) K = goL e m (kB e f K) := by
  induction m with
  | ret a => intro K; show goL e (f a) K = goL e (f a) (kL K []); rfl
  | fail => intro K; rfl
  | rs v s k ih => intro K; simp only [RM.bind, goL_rs]; cases e.sl v s with
    | none => rfl
    | some x => exact ih x
  | rh n k ih => intro K; simp only [RM.bind, goL_rh]; cases e.h n with
    | none => rfl
    | some x => exact ih x
  | ite b x y ihx ihy => intro K; simp only [RM.bind, goL_ite, ihx, ihy]
  | need p k ih => intro K; simp only [RM.bind, goL_need, ih]
  | call g cs k ih => intro K; show (∃ c os, _) = (∃ c os, _); simp only [ih]
@[simp ↓] theorem goL_bind {m : RM β} {f : β → RM α} : goL e (m.bind f) K = goL e m (kB e f K) := goL_bind'
end
theorem callQ {α : Type} {V : FuncId → List C → C → List (Option C) → Prop} {e : Env} {f : FuncId} {cs : List C} {k : C → List (Option C) → RM α} {K : α → List Loc → Prop} {c : C} {os : List (Option C)} (h : V f cs c os) (hk : goL e (k c os) K) : CallQ V e f cs k K := ⟨c, os, h, hk⟩
@[simp] theorem env_sl_true (st : St) (V : FuncId → List C → C → List (Option C) → Prop) (s : Nat) : (st.env V).sl true s = look st.vars s := id rfl
@[simp] theorem env_sl_false (st : St) (V : FuncId → List C → C → List (Option C) → Prop) (s : Nat) : (st.env V).sl false s = look st.tmps s := id rfl
@[simp] theorem env_h (st : St) (V : FuncId → List C → C → List (Option C) → Prop) (n : Nat) : (st.env V).h n = look st.objs n := id rfl
@[simp] theorem env_V (st : St) (V : FuncId → List C → C → List (Option C) → Prop) : (st.env V).V = V := id rfl
@[simp] theorem binA_int (op : BinOp) (k : IntKind) (m n : Int) (h1 : op ≠ .shl) (h2 : op ≠ .shr) : binA .int op (.d (.int k m)) (.d (.int k n)) = ofOpt (intBin op k m n) := by
  unfold binA; cases op <;> simp_all
@[simp] theorem binA_shl (k k' : IntKind) (m n : Int) : binA .int .shl (.d (.int k m)) (.d (.int k' n)) = ofOpt (shBin .shl k m n) := id rfl
@[simp] theorem binA_shr (k k' : IntKind) (m n : Int) : binA .int .shr (.d (.int k m)) (.d (.int k' n)) = ofOpt (shBin .shr k m n) := id rfl
@[simp] theorem binA_stradd (s t : List UInt8) : binA .str .add (.d (.str s)) (.d (.str t)) = .need (s.length + t.length ≤ maxStr) (out (.d (.str (s ++ t)))) := id rfl
@[simp] theorem binA_streq (s t : List UInt8) : binA .str .eql (.d (.str s)) (.d (.str t)) = out (.d (.bool (s == t))) := id rfl
@[simp] theorem binA_strne (s t : List UInt8) : binA .str .neq (.d (.str s)) (.d (.str t)) = out (.d (.bool (!(s == t)))) := id rfl
@[simp] theorem binA_steq (ks : List Nat) (x y : List A) (r : Bool) (h : aggEq ks x y = some r) : binA (.st ks) .eql (.agg x) (.agg y) = out (.d (.bool r)) := by simp only [binA, h]
@[simp] theorem binA_stne (ks : List Nat) (x y : List A) (r : Bool) (h : aggEq ks x y = some r) : binA (.st ks) .neq (.agg x) (.agg y) = out (.d (.bool (!r))) := by simp only [binA, h]
@[simp] theorem binA_booleq (s t : Bool) : binA .bool .eql (.d (.bool s)) (.d (.bool t)) = out (.d (.bool (s == t))) := id rfl
@[simp] theorem binA_boolne (s t : Bool) : binA .bool .neq (.d (.bool s)) (.d (.bool t)) = out (.d (.bool (!(s == t)))) := id rfl
section
variable (k : IntKind) (a b : Int)
@[simp] theorem intBin_add : intBin .add k a b = some (.int k (k.wrap (a + b))) := id rfl
@[simp] theorem intBin_sub : intBin .sub k a b = some (.int k (k.wrap (a - b))) := id rfl
@[simp] theorem intBin_mul : intBin .mul k a b = some (.int k (k.wrap (a * b))) := id rfl
@[simp] theorem intBin_and8 : intBin .and .u8 a b = some (.int .u8 (IntKind.u8.wrap ((BitVec.ofInt 8 a &&& BitVec.ofInt 8 b).toNat))) := id rfl
@[simp] theorem intBin_and64 : intBin .and .u64 a b = some (.int .u64 (IntKind.u64.wrap ((BitVec.ofInt 64 a &&& BitVec.ofInt 64 b).toNat))) := id rfl
@[simp] theorem intBin_or8 : intBin .or .u8 a b = some (.int .u8 (IntKind.u8.wrap ((BitVec.ofInt 8 a ||| BitVec.ofInt 8 b).toNat))) := id rfl
@[simp] theorem intBin_eql : intBin .eql k a b = some (.bool (a == b)) := id rfl
@[simp] theorem intBin_neq : intBin .neq k a b = some (.bool (a != b)) := id rfl
@[simp] theorem intBin_lss : intBin .lss k a b = some (.bool (a < b)) := id rfl
@[simp] theorem intBin_leq : intBin .leq k a b = some (.bool (a ≤ b)) := id rfl
@[simp] theorem intBin_gtr : intBin .gtr k a b = some (.bool (a > b)) := id rfl
@[simp] theorem intBin_geq : intBin .geq k a b = some (.bool (a ≥ b)) := id rfl
end
@[simp] theorem shBin_shr (k : IntKind) (a b : Int) (h : 0 ≤ b) : shBin .shr k a b = some (.int k (a.fdiv (2 ^ (min b.toNat k.bits)))) := by
  unfold shBin; rw [if_neg (by omega)]
@[simp] theorem shBin_shl (k : IntKind) (a b : Int) (h : 0 ≤ b) : shBin .shl k a b = some (.int k (k.wrap (a * 2 ^ (min b.toNat k.bits)))) := by
  unfold shBin; rw [if_neg (by omega)]
@[simp] theorem intBin_quo (k : IntKind) (a b : Int) (h : b ≠ 0) : intBin .quo k a b = some (.int k (k.wrap (a.tdiv b))) := by
  simp only [intBin, if_neg h]
@[simp] theorem intBin_rem (k : IntKind) (a b : Int) (h : b ≠ 0) : intBin .rem k a b = some (.int k (a.tmod b)) := by
  simp only [intBin, if_neg h]
@[simp] theorem bits_u8 : IntKind.u8.bits = 8 := id rfl
@[simp] theorem bits_i64 : IntKind.i64.bits = 64 := id rfl
@[simp] theorem bits_u64 : IntKind.u64.bits = 64 := id rfl
@[simp] theorem idx_eq (i : Int) (n : Nat) (k : Nat → RM Wr) : idx i n k = .need (0 ≤ i ∧ i < n) (k i.toNat) := id rfl
@[simp] theorem bytesD_len (s : List UInt8) : (bytesD s).length = s.length := by simp [bytesD]
@[simp] theorem bytesD_get (s : List UInt8) (i : Nat) : (bytesD s)[i]? = (s[i]?).map fun b => [.int .u8 b.toNat] := by simp [bytesD]
end Go.Proofs.YtbjmakmahooaiaaGreat.Ab

namespace Go.Proofs.YtbjmakmahooaiaaGreat.Ab
def Typ (P : Program) : Nat → TypeId → List D → Prop
  | 0, _, _ => False
  | k + 1, t, ds => match P.underlying t with
    | some .bool => ∃ b, ds = [.bool b]
    | some (.int q) => ∃ n, ds = [.int q n] ∧ (Lit.int q n).wf = true
    | some .string => ∃ s, ds = [.str s] ∧ s.length ≤ maxLen
    | some (.slice e) => ∃ rows, ds = [.slc (P.cellsOf e) rows] ∧ rows.length ≤ maxLen ∧ ∀ r, r ∈ rows → r.length = P.cellsOf e ∧ Typ P k e r
    | some (.struct fs) => ds.length = P.cellsOf t ∧ ∀ f, f ∈ fs.toList → Typ P k f.type ((ds.drop f.offset).take (P.cellsOf f.type))
    | _ => False
def tiles (P : Program) : Nat → List Field → Option Nat
  | o, [] => some o
  | o, f :: r => if f.offset = o then tiles P (o + P.cellsOf f.type) r else none
def Plain (P : Program) : Nat → TypeId → Bool
  | 0, _ => false
  | k + 1, t => match P.underlying t with
    | some .bool => true
    | some (.int _) => true
    | some .string => true
    | some (.slice e) => decide (0 < P.cellsOf e) && Plain P k e
    | some (.struct fs) => (tiles P 0 fs.toList == some (P.cellsOf t)) && fs.toList.all fun f => Plain P k f.type
    | _ => false
def Sees (w : World) (cs : List Value) (ds : List D) : Prop := ds.length = cs.length ∧ ∀ (m : Nat) c d, cs[m]? = some c → ds[m]? = some d → Shr w (fun b _ => b < w.heap.size) c d
theorem Sees.one {w : World} {c : Value} {d : D} (h : Shr w (fun b _ => b < w.heap.size) c d) : Sees w [c] [d] := by
  refine ⟨rfl, fun m c' d' h1 h2 => ?_⟩
  cases m with
  | zero => simp at h1 h2; subst h1 h2; exact h
  | succ m => simp at h1
theorem Sees.append {w : World} {cs cs' : List Value} {ds ds' : List D} (h : Sees w cs ds) (h' : Sees w cs' ds') : Sees w (cs ++ cs') (ds ++ ds') := by
  refine ⟨by simp [h.1, h'.1], fun m c d h1 h2 => ?_⟩
  by_cases hm : m < cs.length
  · rw [List.getElem?_append_left hm] at h1
    rw [List.getElem?_append_left (by rw [h.1]; exact hm)] at h2
    exact h.2 m c d h1 h2
  · rw [List.getElem?_append_right (by omega)] at h1
    rw [List.getElem?_append_right (by rw [h.1]; omega), h.1] at h2
    exact h'.2 _ c d h1 h2
theorem tiles_le {P : Program} : ∀ (fs : List Field) (o n : Nat), tiles P o fs = some n → o ≤ n ∧ ∀ f, f ∈ fs → o ≤ f.offset ∧ f.offset + P.cellsOf f.type ≤ n := by
  intro fs
  induction fs with
  | nil => intro o n h; simp only [tiles, Option.some.injEq] at h; exact ⟨by omega, fun f hf => by simp at hf⟩
  | cons f fs ih =>
    intro o n h
    simp only [tiles] at h
    split at h
    · rename_i e
      obtain ⟨h1, h2⟩ := ih _ _ h
      refine ⟨by omega, fun g hg => ?_⟩
      rcases List.mem_cons.1 hg with rfl | hg
      · exact ⟨by omega, by omega⟩
      · have := h2 g hg; exact ⟨by omega, this.2⟩
    · cases h
theorem struct_sees {P : Program} {w : World} {k : Nat} : ∀ (fs : List Field) (o n : Nat) (cs : List Value), tiles P o fs = some n → cs.length = n - o →
    (∀ f, f ∈ fs → ∃ ds, Sees w ((cs.drop (f.offset - o)).take (P.cellsOf f.type)) ds ∧ Typ P k f.type ds) →
    ∃ ds, Sees w cs ds ∧ ∀ f, f ∈ fs → Typ P k f.type ((ds.drop (f.offset - o)).take (P.cellsOf f.type)) := by
  intro fs
  induction fs with
  | nil =>
    intro o n cs h hl _
    simp only [tiles, Option.some.injEq] at h
    subst h
    have : cs = [] := List.length_eq_zero_iff.1 (by omega)
    subst this
    exact ⟨[], ⟨rfl, fun m c d h => by simp at h⟩, fun f hf => by simp at hf⟩
  | cons f fs ih =>
    intro o n cs h hl hf
    simp only [tiles] at h
    split at h
    · rename_i e
      obtain ⟨h1, h2⟩ := tiles_le _ _ _ h
      obtain ⟨d0, s0, t0⟩ := hf f (by simp)
      rw [e, Nat.sub_self, List.drop_zero] at s0
      have l0 : d0.length = P.cellsOf f.type := by rw [s0.1]; simp; omega
      obtain ⟨ds, s1, t1⟩ := ih (o + P.cellsOf f.type) n (cs.drop (P.cellsOf f.type)) h (by simp; omega) (fun g hg => by
        obtain ⟨dg, sg, tg⟩ := hf g (by simp [hg])
        have := (h2 g hg).1
        rw [List.drop_drop, show P.cellsOf f.type + (g.offset - (o + P.cellsOf f.type)) = g.offset - o by omega]
        exact ⟨dg, sg, tg⟩)
      refine ⟨d0 ++ ds, by have := s0.append s1; rwa [List.take_append_drop] at this, fun g hg => ?_⟩
      rcases List.mem_cons.1 hg with rfl | hg
      · rw [e, Nat.sub_self, List.drop_zero, List.take_append_of_le_length (by omega), ← l0, List.take_length]; exact t0
      · have h3 := (h2 g hg).1
        have := t1 g hg
        rw [List.drop_append, List.drop_of_length_le (show d0.length ≤ g.offset - o by omega), List.nil_append, l0, show g.offset - o - P.cellsOf f.type = g.offset - (o + P.cellsOf f.type) by omega]
        exact this
    · cases h
theorem flat_at {rows : List (List D)} {sz : Nat} (hsz : 0 < sz) : ∀ {m : Nat} {d : D}, (∀ r, r ∈ rows → r.length = sz) → rows.flatten[m]? = some d → ∃ row, rows[m / sz]? = some row ∧ row[m % sz]? = some d := by
  induction rows with
  | nil => intro m d _ h; simp at h
  | cons r rs ih =>
    intro m d hr h
    have hl := hr r (by simp)
    simp only [List.flatten_cons] at h
    by_cases hm : m < sz
    · rw [List.getElem?_append_left (by omega)] at h
      rw [Nat.div_eq_of_lt hm, Nat.mod_eq_of_lt hm]
      exact ⟨r, rfl, h⟩
    · rw [List.getElem?_append_right (by omega), hl] at h
      obtain ⟨row, h1, h2⟩ := ih (fun r hr' => hr r (by simp [hr'])) h
      have e1 : m / sz = (m - sz) / sz + 1 := by rw [Nat.div_eq_sub_div hsz (by omega)]
      have e2 : m % sz = (m - sz) % sz := Nat.mod_eq_sub_mod (by omega)
      rw [e1, e2]
      exact ⟨row, by simpa using h1, h2⟩
theorem choose_rows {p : Nat → List D → Prop} : ∀ (n : Nat), (∀ i, i < n → ∃ r, p i r) → ∃ rows : List (List D), rows.length = n ∧ ∀ (i : Nat) r, rows[i]? = some r → p i r := by
  intro n
  induction n with
  | zero => intro _; exact ⟨[], rfl, fun i r h => by simp at h⟩
  | succ n ih =>
    intro h
    obtain ⟨rows, h1, h2⟩ := ih fun i hi => h i (by omega)
    obtain ⟨r, hr⟩ := h n (by omega)
    refine ⟨rows ++ [r], by simp [h1], fun i r' hi => ?_⟩
    by_cases hlt : i < n
    · rw [List.getElem?_append_left (by omega)] at hi; exact h2 i r' hi
    · rw [List.getElem?_append_right (by omega)] at hi
      have : i - rows.length = 0 := by
        have := (List.getElem?_eq_some_iff.1 hi).1; simp at this; omega
      rw [this] at hi
      simp at hi
      subst hi
      rw [show i = n by omega]; exact hr
section
variable {H : Type} {enc : TypeId × Value → H} {P : Program} {w : World} {base : Nat} {spare : Nat → Bool} {held : Bool}
theorem cells_get {a : Addr} {n : Nat} {cs : List Value} (h : w.cells? base a n = some cs) : cs.length = n ∧ ∀ i, i < n → w.cell? (a.add i) = cs[i]? := by
  unfold World.cells? at h
  split at h
  · exact ⟨by simpa using mapM_some_length h, fun i hi => mapM_some_get h i i (by simp [hi])⟩
  · cases h
theorem add_add (a : Addr) (i j : Nat) (h : a.spot = none) : (a.add i).add j = at_ a.block (a.off + (i + j)) := by
  unfold Addr.add
  obtain ⟨b, o, s⟩ := a
  simp only at h
  subst h
  split <;> split <;> simp_all [at_, Nat.add_assoc]
theorem trod_sees : ∀ (k n : Nat) (t : TypeId) (cs : List Value) (x : DataW H × List MemPlace), Plain P k t = true → DataW.trod enc P w base spare held n t cs = some x → ∃ ds, Sees w cs ds ∧ Typ P k t ds := by
  intro k
  induction k with
  | zero => intro n t cs x hp; simp [Plain] at hp
  | succ k ih =>
    intro n t cs x hp h
    simp only [Plain] at hp
    split at hp
    · rename_i hu
      obtain ⟨b, rfl, _⟩ := DataW.trod_bool hu h
      exact ⟨[.bool b], Sees.one (.bool b), by simp only [Typ, hu]; exact ⟨b, rfl⟩⟩
    · rename_i q hu
      obtain ⟨m, rfl, _, hw⟩ := DataW.trod_int hu h
      exact ⟨[.int q m], Sees.one (.int q m), by simp only [Typ, hu]; exact ⟨m, rfl, hw⟩⟩
    · rename_i hu
      obtain ⟨s, rfl, _, hl⟩ := DataW.trod_string hu h
      exact ⟨[.str s.data.toList], Sees.one (by have := Shr.str (w := w) (Fz := fun b _ => b < w.heap.size) s.data.toList; rwa [← str_eta s] at this), by
        simp only [Typ, hu]; exact ⟨_, rfl, by simpa using hl⟩⟩
    · rename_i e hu
      simp only [Bool.and_eq_true, decide_eq_true_eq] at hp
      obtain ⟨hsz, hpe⟩ := hp
      rcases DataW.trod_slice hu h with ⟨rfl, _⟩ | ⟨a, len, cap, elems, rest, n', rfl, rfl, _, _, hlc, hcap, hel, hget, _, _⟩
      · exact ⟨[.slc (P.cellsOf e) []], Sees.one (.emp none 0 _), by simp only [Typ, hu]; exact ⟨[], rfl, by simp, fun r hr => by simp at hr⟩⟩
      · by_cases h0 : len = 0
        · subst h0
          exact ⟨[.slc (P.cellsOf e) []], Sees.one (.emp _ _ _), by simp only [Typ, hu]; exact ⟨[], rfl, by simp, fun r hr => by simp at hr⟩⟩
        · have hrow : ∀ i, i < len → ∃ ci, w.cells? base (a.add (i * P.cellsOf e)) (P.cellsOf e) = some ci ∧ ∃ r, Sees w ci r ∧ Typ P k e r := by
            intro i hi
            have hg := hget i hi
            rw [List.getElem?_eq_getElem (by omega)] at hg
            obtain ⟨ci, h1, h2⟩ := Option.bind_eq_some_iff.1 hg
            exact ⟨ci, h1, ih _ _ _ _ hpe h2⟩
          have hspot : a.spot = none := by
            obtain ⟨ci, h1, _⟩ := hrow 0 (by omega)
            obtain ⟨h2, h3⟩ := cells_get h1
            have h4 := h3 0 hsz
            rw [List.getElem?_eq_getElem (by omega)] at h4
            simp only [Nat.zero_mul, Addr.add, if_true] at h4
            cases hs : a.spot with
            | none => rfl
            | some z =>
              exfalso
              unfold World.cell? at h4
              split at h4
              · simp [hs] at h4
              · cases h4
          obtain ⟨rows, hl, hrows⟩ := choose_rows (p := fun i r => ∃ ci, w.cells? base (a.add (i * P.cellsOf e)) (P.cellsOf e) = some ci ∧ Sees w ci r ∧ Typ P k e r) len (fun i hi => by
            obtain ⟨ci, h1, r, h2⟩ := hrow i hi; exact ⟨r, ci, h1, h2⟩)
          have hrl : ∀ r, r ∈ rows → r.length = P.cellsOf e := by
            intro r hr
            obtain ⟨i, hi⟩ := List.getElem?_of_mem hr
            obtain ⟨ci, h1, h2, _⟩ := hrows i r hi
            rw [h2.1, (cells_get h1).1]
          refine ⟨[.slc (P.cellsOf e) rows], Sees.one ?_, by
            simp only [Typ, hu]
            refine ⟨rows, rfl, by omega, fun r hr => ⟨hrl r hr, ?_⟩⟩
            obtain ⟨i, hi⟩ := List.getElem?_of_mem hr
            obtain ⟨ci, h1, h2, h3⟩ := hrows i r hi
            exact h3⟩
          have ea : a = at_ a.block a.off := by
            obtain ⟨b, o, s⟩ := a
            simp only at hspot
            subst hspot
            rfl
          have key : ∀ m d, rows.flatten[m]? = some d → ∃ u, w.cell? (at_ a.block (a.off + m)) = some u ∧ Shr w (fun b _ => b < w.heap.size) u d := by
            intro m d hm
            obtain ⟨row, h1, h2⟩ := flat_at hsz hrl hm
            obtain ⟨ci, h3, h4, _⟩ := hrows _ _ h1
            obtain ⟨h5, h6⟩ := cells_get h3
            have hlt := Nat.mod_lt m hsz
            have h7 := h6 (m % P.cellsOf e) hlt
            rw [add_add _ _ _ hspot, Nat.div_add_mod' m (P.cellsOf e)] at h7
            have hc := List.getElem?_eq_getElem (show m % P.cellsOf e < ci.length by omega)
            exact ⟨_, h7.trans hc, h4.2 _ _ _ hc h2⟩
          rw [ea, ← hl]
          exact .slc a.block a.off cap _ rows (fun m => (w.cell? (at_ a.block (a.off + m))).getD Go.undef) hrl (by omega) (fun m d hm => by
            obtain ⟨u, h1, h2⟩ := key m d hm
            exact ⟨by rw [h1]; rfl, cell_lt h1⟩) (fun m d hm => by
            obtain ⟨u, h1, h2⟩ := key m d hm
            rw [h1]; exact h2)
    · rename_i fs hu
      simp only [Bool.and_eq_true, beq_iff_eq, List.all_eq_true] at hp
      obtain ⟨ht, hall⟩ := hp
      obtain ⟨xs, n', rfl, _, hl, hxl, hget⟩ := DataW.trod_struct hu h
      obtain ⟨ds, s1, t1⟩ := struct_sees (k := k) (w := w) fs.toList 0 _ cs ht (by omega) (fun f hf => by
        obtain ⟨i, hi⟩ := List.getElem?_of_mem hf
        have hg := hget i f (by simpa using hi)
        have hlt := (List.getElem?_eq_some_iff.1 hi).1
        rw [List.getElem?_eq_getElem (show i < xs.length by simp at hlt; omega)] at hg
        exact ih _ _ _ _ (hall f hf) hg)
      refine ⟨ds, s1, ?_⟩
      simp only [Typ, hu]
      exact ⟨by rw [s1.1, hl], t1⟩
    · cases hp
end
end Go.Proofs.YtbjmakmahooaiaaGreat.Ab

namespace Go.Proofs.YtbjmakmahooaiaaGreat.Ab
open Go.ChangeShapes Go.WideShapes Go.ChangeAt Go.RowKit
def argC (P : Program) (t : TypeId) (ds : List D) : C :=
  match P.underlying t with
  | some (.struct _) => .agg (ds.map .d)
  | _ => match ds with
    | [d] => .d d
    | _ => .tup []
def argCs (P : Program) : List TypeId → List (List D) → List C
  | t :: ts, d :: ds => argC P t d :: argCs P ts ds
  | _, _ => []
def Fits2 (P : Program) : List TypeId → List (List D) → Prop
  | [], [] => True
  | t :: ts, d :: ds => Typ P 12 t d ∧ Fits2 P ts ds
  | _, _ => False
section
variable {H : Type} {enc : TypeId × Value → H} {P : Program} {w : World} {base : Nat} {spare : Nat → Bool} {held : Bool}
theorem arg_sees {r : Reach} {b0 : Nat} {t : TypeId} {v : Value} {d : DataW H} {ps : List MemPlace} (hp : Plain P 12 t = true) (hval : Value.okWide P w r b0 t v) (hd : DataW.Trod enc P w base spare held t v d ps) :
    ∃ ds, Typ P 12 t ds ∧ RC w (fun b _ => b < w.heap.size) (argC P t ds) v (fun _ _ => False) := by
  obtain ⟨n, hn⟩ := hd
  obtain ⟨ds, s1, t1⟩ := trod_sees 12 n t _ _ hp hn
  refine ⟨ds, t1, ?_⟩
  have one : v.cells.toList = [v] → (∀ fs, P.underlying t ≠ some (.struct fs)) → RC w (fun b _ => b < w.heap.size) (argC P t ds) v (fun _ _ => False) := by
    intro hc hns
    rw [hc] at s1
    obtain ⟨d, rfl⟩ := List.length_eq_one_iff.1 s1.1
    have e : argC P t [d] = .d d := by
      unfold argC
      split
      · rename_i fs hu; exact absurd hu (hns fs)
      · rfl
    rw [e]
    exact .d _ _ _ (s1.2 0 v d rfl rfl) (fun _ _ h => h)
  simp only [Plain] at hp
  split at hp
  · rename_i hu
    obtain ⟨b, rfl⟩ := okWide_bool hu hval
    exact one rfl (fun fs h => by rw [hu] at h; cases h)
  · rename_i q hu
    obtain ⟨m, rfl⟩ := okWide_int hu hval
    exact one rfl (fun fs h => by rw [hu] at h; cases h)
  · rename_i hu
    obtain ⟨s, rfl⟩ := okWide_string hu hval
    exact one rfl (fun fs h => by rw [hu] at h; cases h)
  · rename_i e hu
    obtain ⟨a, len, cap, rfl⟩ := okWide_slice hu hval
    exact one rfl (fun fs h => by rw [hu] at h; cases h)
  · rename_i fs hu
    obtain ⟨cs, rfl, _⟩ := okWide_struct hu hval
    have s1' : Sees w cs.toList ds := s1
    have e : argC P t ds = .agg (ds.map .d) := by simp only [argC, hu]
    rw [e]
    have hl : cs.size = ds.length := by rw [s1'.1]; simp
    have key : ∀ (m : Nat) c, (ds.map C.d)[m]? = some c → ∃ d, c = .d d ∧ Shr w (fun b _ => b < w.heap.size) (cs.getD m Go.undef) d := by
      intro m c hm
      rw [List.getElem?_map] at hm
      obtain ⟨d, hd, rfl⟩ := Option.map_eq_some_iff.1 hm
      have hlt := (List.getElem?_eq_some_iff.1 hd).1
      have hc : cs.toList[m]? = some (cs.getD m Go.undef) := by simp [hl, hlt]
      exact ⟨d, rfl, s1'.2 m _ d hc hd⟩
    refine .agg _ cs (fun _ _ _ => False) _ (by simpa using hl) (fun m c hm => ?_) (fun m c hm => ?_) (fun _ _ _ _ _ _ _ h => h.elim) (fun x y => ⟨fun h => h.elim, fun ⟨_, _, h⟩ => h⟩)
    · obtain ⟨d, _, h⟩ := key m c hm; exact h.one
    · obtain ⟨d, rfl, h⟩ := key m c hm; exact .d _ _ _ h (fun _ _ h => h)
  · cases hp
theorem args_see {r : Reach} {b0 : Nat} : ∀ (ts : List TypeId) (vs : List Value) (ds : List (DataW H)) (ps : List MemPlace), (ts.all fun t => Plain P 12 t) = true → (∀ (j : Nat) t v, ts[j]? = some t → vs[j]? = some v → Value.okWide P w r b0 t v) →
    DataW.TrodAll enc P w base spare held ts vs ds ps → ds.length = ts.length ∧ ∃ dss, Fits2 P ts dss ∧ (argCs P ts dss).length = vs.length ∧ ∀ (m : Nat) c, (argCs P ts dss)[m]? = some c → RC w (fun b _ => b < w.heap.size) c (vs.getD m Go.undef) (fun _ _ => False)
  | [], [], [], _, _, _, _ => ⟨rfl, [], trivial, rfl, fun m c h => by simp [argCs] at h⟩
  | t :: ts, v :: vs, d :: ds, _, hp, hok, ⟨p, q, h1, h2, _⟩ => by
    simp only [List.all_cons, Bool.and_eq_true] at hp
    obtain ⟨d0, t0, r0⟩ := arg_sees hp.1 (hok 0 t v rfl rfl) h1
    obtain ⟨hl, dss, t1, l1, r1⟩ := args_see ts vs ds q hp.2 (fun j t v h h' => hok (j + 1) t v (by simpa using h) (by simpa using h')) h2
    refine ⟨by simp [hl], d0 :: dss, ⟨t0, t1⟩, by simp [argCs, l1], fun m c hm => ?_⟩
    cases m with
    | zero => simp [argCs] at hm; subst hm; exact r0
    | succ m => simpa using r1 m c (by simpa [argCs] using hm)
theorem trodAll_same {w' : World} (hl : laidOutB P = true) (hb : ∀ b, b < w.heap.size → w'.heap[b]? = w.heap[b]?) : ∀ (ts : List TypeId) (vs : List Value) (ds : List (DataW H)) (ps : List MemPlace), (ts.all fun t => P.readableRec t && decide (t < P.types.size)) = true →
    DataW.TrodAll enc P w 0 (fun _ => true) true ts vs ds ps → DataW.TrodAll enc P w' 0 (fun b => decide (b < w.heap.size)) true ts vs ds ps
  | [], [], [], _, _, h => h
  | t :: ts, v :: vs, d :: ds, _, hr, ⟨p, q, h1, h2, e⟩ => by
    simp only [List.all_cons, Bool.and_eq_true, decide_eq_true_eq] at hr
    have hlt : ∀ x ∈ p, x.block < w.heap.size := by
      obtain ⟨n, hn⟩ := h1
      exact DataW.trod_lt n _ _ _ hn
    refine ⟨p, q, WideElems.Trod_stays hl hr.1.1 hr.1.2 h1 (fun x hx => ?_) (fun x hx => by simpa using hlt x hx), trodAll_same hl hb ts vs ds q hr.2 h2, e⟩
    have := hlt x hx
    cases x with
    | cell b o => exact World.cell?_of_block (hb b this)
    | map b => exact hb b this
end
theorem law_contractG {H : Type} {enc : TypeId × Value → H} {P : Program} (G : GV) {f : FuncId} {fn : Func} {s : ChangeSpec} {apart : Bool} {tb : TypeId} (hl : laidOutB P = true)
    (hpl : (fn.params.toList.all fun t => Plain P 12 t) = true) (hrd : (fn.params.toList.all fun t => P.readableRec t && decide (t < P.types.size)) = true) (hvars : s.vars = []) (hrt : fn.resultTypes = #[tb]) (htb : P.underlying tb = some .bool)
    (hs : ∀ ds : List (DataW H), ds.length = fn.params.toList.length → s.fn H ds = { results := [.lit (.bool true)], args := ds })
    (hV : ∀ dss : List (List D), Fits2 P fn.params.toList dss → ∃ os, Valid P G f (argCs P fn.params.toList dss) (.d (.bool true)) os) (W : World) (hG : ∀ b p, G b = some p → ∃ ob, W.heap[b]? = some ob ∧ p ob) (base : Nat) (args : Array Value) (ds gs : List (DataW H)) (before : List MemPlace)
    (hval : ∀ (j : Nat) t v, fn.params[j]? = some t → args[j]? = some v → Value.okWide P W .any base t v) (hW : DataW.Whole enc P fn.params.toList s.vars apart W args.toList ds gs before) :
    Calls P f args W fun e W' => ∃ v, e = .returned v ∧ s.post enc P fn apart true false false W args v W' := by
  have hW0 := hW
  obtain ⟨p, q, hA, hVr, rfl, hfz, hnd⟩ := hW
  rw [hvars] at hVr
  have hgs : gs = [] ∧ q = [] := by
    cases gs with
    | nil => exact ⟨rfl, hVr⟩
    | cons => exact hVr.elim
  obtain ⟨rfl, rfl⟩ := hgs
  obtain ⟨hdl, dss, t1, l1, r1⟩ := args_see (r := .any) (b0 := base) _ _ _ _ hpl (fun j t v h h' => hval j t v (by simpa using h) (by simpa using h')) hA
  obtain ⟨os, hgo, hcall⟩ := hV dss t1
  refine (hcall W args (fun b _ => b < W.heap.size) (fun _ _ _ => False) (fun b p h => by
    obtain ⟨ob, h1, h2⟩ := hG b p h
    have hb : b < W.heap.size := by
      rw [Array.getElem?_eq_some_iff] at h1
      exact h1.1
    exact ⟨fun _ => hb, ob, h1, h2⟩) (fun b _ h => h) ⟨by simpa using l1.symm, fun m c hm => by have := r1 m c hm; simpa [Array.getD_eq_getD_getElem?, List.getD_eq_getElem?_getD] using this, fun _ _ _ _ _ _ _ h => h.elim⟩ (fun _ _ _ _ h => h.elim)).mono ?_
  rintro e W' ⟨v, Fz', U', rfl, post⟩
  have hb : ∀ b, b < W.heap.size → W'.heap[b]? = W.heap[b]? := fun b h => post.blk b h fun _ ⟨_, _, h⟩ => h
  have hv : v = .bool true := by
    have := post.res
    cases this with | d _ _ _ h _ => cases h; rfl
  subst hv
  have e1 : ds ++ [] = ds := List.append_nil ds
  refine ⟨_, rfl, ds, [], p ++ [], [], p, [], hW0, ?_, ?_, ?_, ?_, fun h => by cases h⟩
  · rw [e1, hs ds hdl, hrt]
    exact trodAll_mk1 (shut_bool htb true)
  · rw [e1, hs ds hdl]
    exact trodAll_same hl hb _ _ _ _ hrd hA
  · rw [e1, hs ds hdl, hvars]
    rfl
  · have hk := World.keptBut_refl W (fun x => x ∈ p ++ [] ∧ (x ∈ ([] : List MemPlace) ∨ x ∈ p ∨ x ∈ ([] : List MemPlace)))
    exact ⟨post.side.1.trans hk.1, post.side.2.trans hk.2.1, fun i hi => by rw [hb i hi]; exact hk.2.2 i hi⟩
theorem law_contract {H : Type} {enc : TypeId × Value → H} {P : Program} {f : FuncId} {fn : Func} {s : ChangeSpec} {apart : Bool} {tb : TypeId} (hl : laidOutB P = true)
    (hpl : (fn.params.toList.all fun t => Plain P 12 t) = true) (hrd : (fn.params.toList.all fun t => P.readableRec t && decide (t < P.types.size)) = true) (hvars : s.vars = []) (hrt : fn.resultTypes = #[tb]) (htb : P.underlying tb = some .bool)
    (hs : ∀ ds : List (DataW H), ds.length = fn.params.toList.length → s.fn H ds = { results := [.lit (.bool true)], args := ds })
    (hV : ∀ dss : List (List D), Fits2 P fn.params.toList dss → ∃ os, Valid P (fun _ => none) f (argCs P fn.params.toList dss) (.d (.bool true)) os) (W : World) (base : Nat) (args : Array Value) (ds gs : List (DataW H)) (before : List MemPlace)
    (hval : ∀ (j : Nat) t v, fn.params[j]? = some t → args[j]? = some v → Value.okWide P W .any base t v) (hW : DataW.Whole enc P fn.params.toList s.vars apart W args.toList ds gs before) :
    Calls P f args W fun e W' => ∃ v, e = .returned v ∧ s.post enc P fn apart true false false W args v W' :=
  law_contractG (fun _ => none) hl hpl hrd hvars hrt htb hs hV W (fun b p h => by cases h) base args ds gs before hval hW
end Go.Proofs.YtbjmakmahooaiaaGreat.Ab

namespace Go.Proofs.YtbjmakmahooaiaaGreat.Ab
def intsD (l : List Int) : List (List D) := l.map fun n => [.int .i64 n]
def strsD (l : List (List UInt8)) : List (List D) := l.map fun s => [.str s]
def boolsD (l : List Bool) : List (List D) := l.map fun b => [.bool b]
@[simp] theorem intsD_len (l : List Int) : (intsD l).length = l.length := by simp [intsD]
@[simp] theorem intsD_get (l : List Int) (i : Nat) : (intsD l)[i]? = (l[i]?).map fun n => [.int .i64 n] := by simp [intsD]
@[simp] theorem strsD_len (l : List (List UInt8)) : (strsD l).length = l.length := by simp [strsD]
@[simp] theorem strsD_get (l : List (List UInt8)) (i : Nat) : (strsD l)[i]? = (l[i]?).map fun n => [.str n] := by simp [strsD]
@[simp] theorem boolsD_len (l : List Bool) : (boolsD l).length = l.length := by simp [boolsD]
@[simp] theorem boolsD_get (l : List Bool) (i : Nat) : (boolsD l)[i]? = (l[i]?).map fun n => [.bool n] := by simp [boolsD]
def int64 (n : Int) : Prop := -9223372036854775808 ≤ n ∧ n ≤ 9223372036854775807
theorem rows_of {α : Type} {p : α → Prop} {f : α → List D} : ∀ (rows : List (List D)), (∀ r, r ∈ rows → ∃ x, r = f x ∧ p x) → ∃ l : List α, rows = l.map f ∧ ∀ x, x ∈ l → p x := by
  intro rows
  induction rows with
  | nil => intro _; exact ⟨[], rfl, fun x h => by simp at h⟩
  | cons r rs ih =>
    intro h
    obtain ⟨x, rfl, hx⟩ := h r (by simp)
    obtain ⟨l, rfl, hl⟩ := ih fun r hr => h r (by simp [hr])
    exact ⟨x :: l, rfl, fun y hy => (List.mem_cons.1 hy).elim (fun e => e ▸ hx) (hl y)⟩
section
variable {P : Program} {k : Nat} {t e : TypeId} {ds : List D}
theorem typ_bool (ht : P.underlying t = some .bool) (h : Typ P (k + 1) t ds) : ∃ b, ds = [.bool b] := by
  simp only [Typ, ht] at h; exact h
theorem typ_int (ht : P.underlying t = some (.int .i64)) (h : Typ P (k + 1) t ds) : ∃ n, ds = [.int .i64 n] ∧ int64 n := by
  simp only [Typ, ht] at h
  obtain ⟨n, rfl, hw⟩ := h
  exact ⟨n, rfl, by simp only [Lit.wf, Bool.and_eq_true, decide_eq_true_eq] at hw; exact hw⟩
theorem typ_u8 (ht : P.underlying t = some (.int .u8)) (h : Typ P (k + 1) t ds) : ∃ b : UInt8, ds = [.int .u8 b.toNat] := by
  simp only [Typ, ht] at h
  obtain ⟨n, rfl, hw⟩ := h
  simp only [Lit.wf, Bool.and_eq_true, decide_eq_true_eq] at hw
  obtain ⟨h1, h2⟩ := hw
  have h3 : 0 ≤ n := h1
  have h4 : n ≤ 255 := h2
  refine ⟨UInt8.ofNat n.toNat, ?_⟩
  congr 1
  rw [UInt8.toNat_ofNat']
  congr 1
  omega
theorem typ_str (ht : P.underlying t = some .string) (h : Typ P (k + 1) t ds) : ∃ s, ds = [.str s] ∧ s.length ≤ maxLen := by
  simp only [Typ, ht] at h; exact h
theorem typ_slc (ht : P.underlying t = some (.slice e)) (h : Typ P (k + 1) t ds) : ∃ rows, ds = [.slc (P.cellsOf e) rows] ∧ rows.length ≤ maxLen ∧ ∀ r, r ∈ rows → Typ P k e r := by
  simp only [Typ, ht] at h
  obtain ⟨rows, rfl, h1, h2⟩ := h
  exact ⟨rows, rfl, h1, fun r hr => (h2 r hr).2⟩
theorem typ_struct {fs : Array Field} (ht : P.underlying t = some (.struct fs)) (h : Typ P (k + 1) t ds) : ds.length = P.cellsOf t ∧ ∀ f, f ∈ fs.toList → Typ P k f.type ((ds.drop f.offset).take (P.cellsOf f.type)) := by
  simp only [Typ, ht] at h; exact h
theorem typ_field {fs : Array Field} (h : ∀ f, f ∈ fs.toList → Typ P k f.type ((ds.drop f.offset).take (P.cellsOf f.type))) (i : Nat) {f : Field} (hi : fs[i]? = some f) {n : Nat} (hc : P.cellsOf f.type = n) : Typ P k f.type ((ds.drop f.offset).take n) := by
  subst hc
  exact h f (List.mem_of_getElem? (by simpa using hi : fs.toList[i]? = some f))
theorem typ_bytes (ht : P.underlying t = some (.slice e)) (he : P.underlying e = some (.int .u8)) (hc : P.cellsOf e = 1) (h : Typ P (k + 2) t ds) : ∃ a : List UInt8, ds = [.slc 1 (bytesD a)] ∧ a.length ≤ maxLen := by
  obtain ⟨rows, rfl, h1, h2⟩ := typ_slc ht h
  obtain ⟨l, rfl, _⟩ := rows_of (p := fun _ : UInt8 => True) (f := fun b => [D.int .u8 b.toNat]) rows fun r hr => by obtain ⟨b, hb⟩ := typ_u8 he (h2 r hr); exact ⟨b, hb, trivial⟩
  exact ⟨l, by rw [hc]; rfl, by simpa using h1⟩
theorem typ_ints (ht : P.underlying t = some (.slice e)) (he : P.underlying e = some (.int .i64)) (hc : P.cellsOf e = 1) (h : Typ P (k + 2) t ds) : ∃ a : List Int, ds = [.slc 1 (intsD a)] ∧ a.length ≤ maxLen ∧ ∀ n, n ∈ a → int64 n := by
  obtain ⟨rows, rfl, h1, h2⟩ := typ_slc ht h
  obtain ⟨l, rfl, hl⟩ := rows_of (p := int64) (f := fun b => [D.int .i64 b]) rows fun r hr => typ_int he (h2 r hr)
  exact ⟨l, by rw [hc]; rfl, by simpa using h1, hl⟩
theorem typ_strs (ht : P.underlying t = some (.slice e)) (he : P.underlying e = some .string) (hc : P.cellsOf e = 1) (h : Typ P (k + 2) t ds) : ∃ a : List (List UInt8), ds = [.slc 1 (strsD a)] ∧ a.length ≤ maxLen ∧ ∀ n, n ∈ a → n.length ≤ maxLen := by
  obtain ⟨rows, rfl, h1, h2⟩ := typ_slc ht h
  obtain ⟨l, rfl, hl⟩ := rows_of (p := fun s : List UInt8 => s.length ≤ maxLen) (f := fun b => [D.str b]) rows fun r hr => typ_str he (h2 r hr)
  exact ⟨l, by rw [hc]; rfl, by simpa using h1, hl⟩
end
theorem fits_one {P : Program} {t : TypeId} {dss : List (List D)} (h : Fits2 P [t] dss) : ∃ d, dss = [d] ∧ Typ P 12 t d := by
  match dss, h with
  | [d], h => exact ⟨d, rfl, h.1⟩
theorem fits_two {P : Program} {t u : TypeId} {dss : List (List D)} (h : Fits2 P [t, u] dss) : ∃ d e, dss = [d, e] ∧ Typ P 12 t d ∧ Typ P 12 u e := by
  match dss, h with
  | [d, e], h => exact ⟨d, e, rfl, h.1, h.2.1⟩
theorem fits_three {P : Program} {t u v : TypeId} {dss : List (List D)} (h : Fits2 P [t, u, v] dss) : ∃ d e f, dss = [d, e, f] ∧ Typ P 12 t d ∧ Typ P 12 u e ∧ Typ P 12 v f := by
  match dss, h with
  | [d, e, f], h => exact ⟨d, e, f, rfl, h.1, h.2.1, h.2.2.1⟩
end Go.Proofs.YtbjmakmahooaiaaGreat.Ab

namespace Go.Proofs.YtbjmakmahooaiaaGreat.Ab
open Go.Sort
theorem grown_post {w w' : World} {Fz : PSet} {args : Array Value} {v : Value} {r : C} {os : List (Option C)} (hFz : ∀ b o, Fz b o → b < w.heap.size) (hside : w'.os = w.os ∧ w'.output = w.output) (hsize : w.heap.size ≤ w'.heap.size) (hblk : ∀ b, b < w.heap.size → w'.heap[b]? = w.heap[b]?)
    (hr : RC w' Fz r v (fun _ _ => False)) (ho : ∀ (m : Nat) c, os[m]? ≠ some (some c)) (S : PSet) : ∃ U', Post w w' Fz Fz S args v r os U' :=
  ⟨fun _ _ _ => False, hside, hsize, fun b hb _ => hblk b hb, fun b o hb _ => keep_of_heap (hblk b hb) o, fun _ _ h => h, fun b o h => Nat.lt_of_lt_of_le (hFz b o h) hsize, fun _ _ h => .inl h, hr, fun m c h => absurd h (ho m c), fun _ _ _ _ _ h => h.elim, fun _ _ _ h => h.elim⟩
theorem grow_keeps (w : World) (k : Nat) (os : Array Obj) : (grow (w.drewN k) os).os = w.os ∧ (grow (w.drewN k) os).output = w.output ∧ w.heap.size ≤ (grow (w.drewN k) os).heap.size ∧ ∀ b, b < w.heap.size → (grow (w.drewN k) os).heap[b]? = w.heap[b]? := by
  refine ⟨rfl, rfl, ?_, fun b hb => ?_⟩
  · show w.heap.size ≤ (w.heap ++ os).size
    simp
  · show (w.heap ++ os)[b]? = w.heap[b]?
    rw [Array.getElem?_append_left hb]
theorem lib_int {P : Program} {G : GV} {f : FuncId} {k : IntKind} {n : Int} {r : D} {rv : Value} (hgo : Goes P f) (hr : ∀ w Fz, Shr w Fz rv r)
    (h : ∀ w, (∀ b p, G b = some p → ∃ ob, w.heap[b]? = some ob ∧ p ob) → Calls P f #[.int k n] w fun e w' => e = .returned rv ∧ ∃ j os, w' = grow (w.drewN j) os) : Valid P G f [.d (.int k n)] (.d r) [none] := by
  refine ⟨hgo, fun w args Fz U hG hFz hRC hap => ?_⟩
  obtain ⟨hl, hRC, _⟩ := hRC
  have h0 := hRC 0 _ rfl
  generalize hv0 : args.getD 0 Go.undef = v0 at h0
  have hargs : args = #[.int k n] := by
    cases h0 with | d _ _ _ hs _ => ?_
    cases hs
    apply Array.ext
    · simpa using hl
    · intro i h1 h2
      have : i = 0 := by simp at h2; omega
      subst this
      simp [Array.getD_eq_getD_getElem?, h1] at hv0
      simpa using hv0
  subst hargs
  refine (h w fun b p hb => (hG b p hb).2).mono ?_
  rintro e w' ⟨rfl, j, os, rfl⟩
  obtain ⟨g1, g2, g3, g4⟩ := grow_keeps w j os
  obtain ⟨U', hp⟩ := grown_post (w := w) (w' := grow (w.drewN j) os) (Fz := Fz) (args := #[.int k n]) (v := rv) (r := .d r) (os := [none]) hFz ⟨g1, g2⟩ g3 g4 (.d _ _ _ (hr _ _) fun _ _ h => h) (fun m c hm => by
    cases m with
    | zero => simp at hm
    | succ m => simp at hm) (fun x y => ∃ i, i < [C.d (D.int k n)].length ∧ U i x y)
  exact ⟨_, _, U', rfl, hp⟩
theorem shr_slc_inv {w : World} {Fz : PSet} {v : Value} {sz : Nat} {rows : List (List D)} (h : Shr w Fz v (.slc sz rows)) : (∃ a cap, v = .slice a 0 cap ∧ rows = []) ∨
    ∃ (b off cap : Nat) (vs : Nat → Value), v = .slice (some (at_ b off)) rows.length cap ∧ rows.length ≤ cap ∧ ∀ (m : Nat) d, rows.flatten[m]? = some d → w.cell? (at_ b (off + m)) = some (vs m) ∧ Shr w Fz (vs m) d := by
  cases h with
  | emp a cap => exact .inl ⟨a, cap, rfl, rfl⟩
  | slc b off cap _ _ vs hr hcap hc hs => exact .inr ⟨b, off, cap, vs, rfl, hcap, fun m d hm => ⟨(hc m d hm).1, hs m d hm⟩⟩
theorem args_two {w : World} {Fz : PSet} {a b : D} {args : Array Value} {U : Nat → PSet} (h : RCs w Fz [.d a, .d b] args U) : ∃ u v, args = #[u, v] ∧ Shr w Fz u a ∧ Shr w Fz v b := by
  obtain ⟨hl, hRC, _⟩ := h
  have h0 := hRC 0 _ rfl
  have h1 := hRC 1 _ rfl
  have hl' : args.size = 2 := hl
  refine ⟨args.getD 0 Go.undef, args.getD 1 Go.undef, ?_, ?_, ?_⟩
  · apply Array.ext
    · simpa using hl'
    · intro i i1 i2
      have : i = 0 ∨ i = 1 := by simp at i2; omega
      rcases this with rfl | rfl <;> simp [Array.getD_eq_getD_getElem?, i1]
  · generalize args.getD 0 Go.undef = v0 at h0; cases h0; assumption
  · generalize args.getD 1 Go.undef = v0 at h1; cases h1; assumption
theorem W_cut {P : Program} {vl : List Nat} {nt : Nat × List Nat} {V : FuncId → List C → C → List (Option C) → Prop} {a b : ACode} {st : St} {Kn : St → Prop} {Ke : Nat → St → Prop} {Kr : St → Prop} (live : List Nat) (M : St → Prop)
    (h1 : W P vl nt V a st (fun st' => M (gc live st')) Ke Kr) (h2 : ∀ st', M st' → W P vl nt V b st' Kn Ke Kr) : W P vl nt V (.seq a b) st Kn Ke Kr :=
  W_seq (W.mono h1 (fun _ hm => W_gc live (h2 _ hm)) (fun _ _ h => h) (fun _ h => h))
end Go.Proofs.YtbjmakmahooaiaaGreat.Ab

namespace Go.Proofs.YtbjmakmahooaiaaGreat.Ab
theorem lib_new {P : Program} {G : GV} {f : FuncId} (ds : List D) {r : C} (hgo : Goes P f)
    (h : ∀ (w : World) (Fz : PSet) (args : Array Value), (∀ b p, G b = some p → ∃ ob, w.heap[b]? = some ob ∧ p ob) → (∀ b o, Fz b o → b < w.heap.size) → args.size = ds.length → (∀ (i : Nat) d, ds[i]? = some d → Shr w Fz (args.getD i Go.undef) d) →
      Calls P f args w fun e w' => ∃ v Fz' S, e = .returned v ∧ (w'.os = w.os ∧ w'.output = w.output) ∧ w.heap.size ≤ w'.heap.size ∧ (∀ b, b < w.heap.size → w'.heap[b]? = w.heap[b]?) ∧
        (∀ b o, Fz b o → Fz' b o) ∧ (∀ b o, Fz' b o → (Fz b o ∨ w.heap.size ≤ b) ∧ b < w'.heap.size) ∧ RC w' Fz' r v S ∧ ∀ x y, S x y → w.heap.size ≤ x ∧ ¬ Fz' x y ∧ x < w'.heap.size) :
    Valid P G f (ds.map .d) r (List.replicate ds.length none) := by
  refine ⟨hgo, fun w args Fz U hG hFz hRC hap => ?_⟩
  obtain ⟨hl, hRC, _⟩ := hRC
  refine (h w Fz args (fun b p hb => (hG b p hb).2) hFz (by simpa using hl) (fun i d hd => ?_)).mono ?_
  · have h0 := hRC i (.d d) (by simp [hd])
    generalize args.getD i Go.undef = v0 at h0
    cases h0
    assumption
  · rintro e w' ⟨v, Fz', S, rfl, hside, hsize, hblk, hF1, hF2, hr, hS⟩
    have keep : ∀ b o, b < w.heap.size → w'.cell? (at_ b o) = w.cell? (at_ b o) ∧ w'.frz? (at_ b o) = w.frz? (at_ b o) := fun b o hb => keep_of_heap (hblk b hb) o
    refine ⟨v, Fz', fun i => if i = 0 then S else fun _ _ => False, rfl, hside, hsize, fun b hb _ => hblk b hb, fun b o hb _ => keep b o hb, hF1, fun b o hb => (hF2 b o hb).2, fun b o hb => ?_, hr, ?_, ?_, ?_⟩
    · rcases (hF2 b o hb).1 with h | h
      · exact .inl h
      · exact .inr (.inr h)
    · intro m c hm
      rw [List.getElem?_replicate] at hm
      split at hm <;> cases hm
    · intro i j hij x y hx hy
      by_cases hi : i = 0
      · subst hi
        rw [if_neg (by omega)] at hy
        exact hy
      · simp only [hi, if_false] at hx
    · intro i x y hx
      by_cases hi : i = 0
      · subst hi
        obtain ⟨h1, h2, h3⟩ := hS x y hx
        exact ⟨.inr h1, h2, h3⟩
      · simp only [hi, if_false] at hx
@[simp] theorem binA_ifcne (t : Nat) (k : IntKind) (n : Int) : binA .err .neq (.d (.ifc t k n)) (.d (.err true)) = out (.d (.bool true)) := id rfl
@[simp] theorem binA_ifceq (t : Nat) (k : IntKind) (n : Int) : binA .err .eql (.d (.ifc t k n)) (.d (.err true)) = out (.d (.bool false)) := id rfl
@[simp] theorem binA_errne (b : Bool) : binA .err .neq (.d (.err b)) (.d (.err true)) = out (.d (.bool (!b))) := id rfl
@[simp] theorem binA_erreq (b : Bool) : binA .err .eql (.d (.err b)) (.d (.err true)) = out (.d (.bool b)) := id rfl
theorem shr_str {w : World} {Fz : PSet} {v : Value} {s : List UInt8} (h : Shr w Fz v (.str s)) : v = .string ⟨s.toArray⟩ := by cases h; rfl
theorem shr_int {w : World} {Fz : PSet} {v : Value} {k : IntKind} {n : Int} (h : Shr w Fz v (.int k n)) : v = .int k n := by cases h; rfl
theorem shr_ifc {w : World} {Fz : PSet} {v : Value} {t : Nat} {k : IntKind} {n : Int} (h : Shr w Fz v (.ifc t k n)) : v = .iface t (.int k n) := by cases h; rfl
theorem args_eq {args : Array Value} {l : List Value} (h : args.size = l.length) (hg : ∀ (i : Nat) v, l[i]? = some v → args.getD i Go.undef = v) : args = l.toArray := by
  apply Array.ext
  · simpa using h
  · intro i h1 h2
    have h3 : i < l.length := by simpa using h2
    have := hg i _ (List.getElem?_eq_getElem h3)
    rw [Array.getD_eq_getD_getElem?, Array.getElem?_eq_getElem h1] at this
    simpa using this
theorem ind_ints (l : List Int) : ∀ row, row ∈ intsD l → ∀ d, d ∈ row → IndD 0 d := by
  intro row hr d hd
  simp only [intsD, List.mem_map] at hr
  obtain ⟨x, _, rfl⟩ := hr
  simp at hd; subst hd; simp [IndD]
theorem ind_strs (l : List (List UInt8)) : ∀ row, row ∈ strsD l → ∀ d, d ∈ row → IndD 0 d := by
  intro row hr d hd
  simp only [strsD, List.mem_map] at hr
  obtain ⟨x, _, rfl⟩ := hr
  simp at hd; subst hd; simp [IndD]
theorem ind_bytes (l : List UInt8) : ∀ row, row ∈ bytesD l → ∀ d, d ∈ row → IndD 0 d := by
  intro row hr d hd
  simp only [bytesD, List.mem_map] at hr
  obtain ⟨x, _, rfl⟩ := hr
  simp at hd; subst hd; simp [IndD]
end Go.Proofs.YtbjmakmahooaiaaGreat.Ab

namespace Go.Proofs.YtbjmakmahooaiaaGreat.Ab
open Go Go.Proofs
theorem lift_shaped {H : Type} {enc : TypeId × Value → H} {C : Checked} {os : Os} {f : FuncId} {fn : Func} {s : ChangeSpec} {apart fresh handsOn again : Bool} {X : World → Prop}
    (hX : ∀ w w' : World, w.heap = w'.heap → X w → X w') (own : ownKnob C.prog.godebug = none) (started : os.Started) (noInit : C.prog.inits.idxOf? f = none) (hfn : C.prog.funcs[f]? = some fn)
    (witness : ∃ (w : World) (tape : Tape) (i : Input), w.os = os ∧ (w.forCall tape i).Shaped C.prog ∧ i.vars = [] ∧ Input.okWide C.prog (w.forCall tape i) .any w.heap.size f i ∧
      ((s.pre enc C.prog fn [] apart (w.forCall tape i).memory i.args ∧ X (w.forCall tape i).memory) ∧ sizedMet enc C.prog fn (OpenSpec.ofChange s) apart (w.forCall tape i).memory i.args) ∧ ({} : Assume).holds C.prog (lone (Frame.enter C.prog f i.args .normal) [] (w.forCall tape i)))
    (hc : ∀ (W : World) (base : Nat) (args : Array Value) (ds gs : List (DataW H)) (before : List MemPlace),
      (∀ (j : Nat) t v, fn.params[j]? = some t → args[j]? = some v → Value.okWide C.prog W .any base t v) → DataW.Whole enc C.prog fn.params.toList s.vars apart W args.toList ds gs before → X W → W.ShapedOpen C.prog →
      Calls C.prog f args W fun e W' => ∃ v, e = .returned v ∧ s.post enc C.prog fn apart fresh handsOn again W args v W') :
    ReturnsInHanded {} C os f .any (fun w args => (s.pre enc C.prog fn [] apart w args ∧ X w) ∧ sizedMet enc C.prog fn (OpenSpec.ofChange s) apart w args) (s.post enc C.prog fn apart fresh handsOn again) := by
  refine returnsInHanded_of_calls own started noInit witness fun w tape i _ hsh _ hok hpre _ => ?_
  obtain ⟨_, _, _, g, hg, _, _, _, _, hval⟩ := hok
  cases hg.symm.trans hfn
  obtain ⟨⟨⟨ds, gs, before, hw, _⟩, hx⟩, _⟩ := hpre
  refine (hc (w.forCall tape i) w.heap.size i.args ds gs before hval (DataW.Whole.of_heap (w := (w.forCall tape i).memory) (w' := w.forCall tape i) (by rfl) hw) (hX (w.forCall tape i).memory _ (by rfl) hx) hsh).mono ?_
  rintro e W' ⟨v, rfl, hp⟩
  exact ChangeSpec.post_blind hp
theorem shaped_int {P : Program} {w : World} {g : Nat} (h : w.ShapedOpen P) (hg : g < P.globals.size) (h0 : ((begin P (fun _ _ => 0) default).world.heap[g]?).bind Obj.row? = some (#[.int .i64 0], 3)) (hb : P.buildable 3 = true)
    (hc : P.cellTypes P.depth 3 = some [3]) (hu : P.underlying 3 = some (.int .i64)) : ∃ cs t fr, w.heap[g]? = some (.cells cs t fr) ∧ ∃ m : Int, cs[0]? = some (.int .i64 m) := by
  obtain ⟨m, hm⟩ := cell_of_shapedOpen_int h hg h0 rfl hb hc hu
  unfold World.cell? at hm
  simp only at hm
  cases hh : w.heap[g]? with
  | none => rw [hh] at hm; cases hm
  | some ob =>
    rw [hh] at hm
    cases ob with
    | cells cs t fr =>
      obtain ⟨lo, hi⟩ := fr
      refine ⟨cs, t, (lo, hi), rfl, m, ?_⟩
      simp only at hm
      exact hm
    | _ => cases hm
end Go.Proofs.YtbjmakmahooaiaaGreat.Ab

set_option linter.unusedVariables false
namespace Go.Proofs.YtbjmakmahooaiaaGreat.Ab
section
variable {P : Program} {vl : List Nat} {nt : Nat × List Nat} {V : FuncId → List C → C → List (Option C) → Prop} {st : St} {Kn : St → Prop} {Ke : Nat → St → Prop} {Kr : St → Prop}
theorem W_regP {ops : List AOper} (h : ∀ K : St → Prop, (∀ st', Kn ⟨[], st'.vars, st'.objs, st.nx + 64 * ops.length⟩ → K st') → regS V st.nx 0 ops st K) : W P vl nt V (.reg ops false) st Kn Ke Kr :=
  WS_reg (regS_W _ _ _ _ (h (fun st' => Kn ⟨[], st'.vars, st'.objs, st.nx + 64 * ops.length⟩) fun _ h => h))
theorem W_regPD {ops : List AOper} (h : ∀ K : St → Prop, (∀ st', Kn ⟨[], st'.vars, st'.objs, st.nx + 64 * ops.length⟩ → K st') → regD V st.nx 0 ops [] true st K) : W P vl nt V (.reg ops true) st Kn Ke Kr :=
  WS_reg (regD_acc _ _ _ _ _ (h (fun st' => Kn ⟨[], st'.vars, st'.objs, st.nx + 64 * ops.length⟩) fun _ h => h)).2
theorem pick_pos {c : Prop} [Decidable c] {a b : Prop} (hc : decide c = true) (h : a) : if c then a else b := by rw [if_pos (of_decide_eq_true hc)]; exact h
theorem pick_neg {c : Prop} [Decidable c] {a b : Prop} (hc : decide c = false) (h : b) : if c then a else b := by rw [if_neg (of_decide_eq_false hc)]; exact h
theorem okayD {b : Bool} {p : Prop} (h1 : b = true) (h2 : p) : Okay b ∧ p := ⟨h1, h2⟩
end
end Go.Proofs.YtbjmakmahooaiaaGreat.Ab
namespace Go.Proofs.YtbjmakmahooaiaaGreat.Ab
theorem nil_step {c : Ctx} {g : Gh} {h h' : Nat → Option O} {w : World} (hi : HInv c g h w) {q k sz : Nat} (hq : ¬ g.Nm q) (N : Nat → Prop) (hN : ∀ n, N n → n ≠ q)
    (h1 : h' q = some (.arr 0 k sz [])) (h2 : ∀ n, n ≠ q → ¬ N n → h' n = h n)
    (h3 : ∀ n, N n → ∃ cells cells', h n = some (.box cells) ∧ h' n = some (.box cells') ∧ cells'.length = cells.length ∧ ∀ (m : Nat) (a : A), cells'[m]? = some a → (cells[m]? = some a ∨ (a = .sl q ∧ ∃ k' sz', cells[m]? = some (.nil k' sz')))) :
    ∃ g', HInv c g' h' w ∧ Ext g g' h h' w w ∧ (∀ n, g'.Nm n → g.Nm n ∨ n = q) ∧ ∀ k' sz' v, RA g h w (.nil k' sz') v → RA g' h' w (.sl q) v := by
  have hhq : h q = none := by
    cases e : h q with
    | none => rfl
    | some o => exact absurd (hi.nm q o e) hq
  refine ⟨⟨fun n => if n = q then .slice none 0 0 else g.ν n, fun n => if n = q then fun _ _ => False else g.F n, g.Fz, fun n => g.Nm n ∨ n = q⟩, ?_⟩
  have key := mkStep (g' := ⟨fun n => if n = q then .slice none 0 0 else g.ν n, fun n => if n = q then fun _ _ => False else g.F n, g.Fz, fun n => g.Nm n ∨ n = q⟩) (h' := h') (w' := w) hi (fun n => n = q ∨ N n) ⟨rfl, rfl⟩ (Nat.le_refl _)
    (fun n hn => ⟨h2 n (fun e => hn (.inl e)) (fun e => hn (.inr e)), fun _ => if_neg fun e => hn (.inl e)⟩) (fun n hn => .inl hn) (fun n hn => if_neg fun e => by subst e; exact hq hn) (fun _ _ _ => rfl) (fun _ _ _ _ => ⟨rfl, rfl⟩) (fun _ _ h => h) (fun _ _ h => .inl h)
    (fun n ver k' sz' rows hM hn hh => by
      rcases hM with rfl | hM
      · exact absurd hn hq
      · obtain ⟨_, _, _, e, _⟩ := h3 n hM
        rw [e] at hh; cases hh)
    (fun x n o hM hh => by
      rcases hM with rfl | hM
      · rw [h1] at hh
        cases hh
        exact ⟨.inr rfl, .inl ⟨if_pos rfl, rfl, fun x y hf => by simp only [if_true] at hf⟩⟩
      · obtain ⟨cells, cells', e1, e2, hl, hc⟩ := h3 n hM
        have hnm := hi.nm n _ e1
        rw [e2] at hh
        cases hh
        have ho := hi.obj n _ e1
        have hnq := hN n hM
        obtain ⟨b, o, e, hr, hf, hcc⟩ := ho
        refine ⟨.inl hnm, b, o, by simp only [if_neg hnq]; exact e, by rw [hl]; exact hr, fun x y => by simp only [if_neg hnq]; rw [hl]; exact hf x y, fun m a hm => ?_⟩
        rcases hc m a hm with hm' | ⟨rfl, k', sz', hm'⟩
        · obtain ⟨u, hu, hu1, hra⟩ := hcc m a hm'
          exact ⟨u, hu, hu1, hra.ext x⟩
        · obtain ⟨u, hu, hu1, hra⟩ := hcc m _ hm'
          cases hra
          refine ⟨_, hu, hu1, ?_⟩
          have := RA.sl (g := ⟨fun n => if n = q then .slice none 0 0 else g.ν n, fun n => if n = q then fun _ _ => False else g.F n, g.Fz, fun n => g.Nm n ∨ n = q⟩) (h := h') (w := w) q (.inr rfl) (by simp only [if_true]; rfl)
          simpa using this)
    (fun n o hM hh x y hf => by
      rcases hM with rfl | hM
      · simp only [if_true] at hf
      · obtain ⟨cells, cells', e1, e2, hl, hc⟩ := h3 n hM
        simp only [if_neg (hN n hM)] at hf
        exact ⟨.inl ⟨n, _, .inr hM, e1, hf⟩, hi.lt n _ e1 x y hf, (hi.mine n _ e1 x y hf).2⟩)
    (fun n m o o' hM hM' hh hh' hne x y hf hf' => by
      by_cases hn : n = q
      · simp only [if_pos hn] at hf
      · by_cases hm : m = q
        · simp only [if_pos hm] at hf'
        · simp only [if_neg hn] at hf
          simp only [if_neg hm] at hf'
          obtain ⟨_, _, e1, _⟩ := h3 n (hM.resolve_left hn)
          obtain ⟨_, _, e2, _⟩ := h3 m (hM'.resolve_left hm)
          exact hi.disj n m _ _ e1 e2 hne x y hf hf')
  refine ⟨key.1, key.2, fun n h => h, fun k' sz' v hv => ?_⟩
  cases hv
  have := RA.sl (g := ⟨fun n => if n = q then .slice none 0 0 else g.ν n, fun n => if n = q then fun _ _ => False else g.F n, g.Fz, fun n => g.Nm n ∨ n = q⟩) (h := h') (w := w) q (.inr rfl) (by simp only [if_true]; rfl)
  simpa using this
section
variable {P : Program} {vl : List Nat} {nt : Nat × List Nat} {V : FuncId → List C → C → List (Option C) → Prop} {st : St} {Kn : St → Prop} {Ke : Nat → St → Prop} {Kr : St → Prop}
theorem W_nilB {ac : ACode} (n j : Nat) {k sz : Nat} {cells : List A} (hn : look st.objs n = some (.box cells)) (hj : cells[j]? = some (.nil k sz))
    (h : W P vl nt V ac ⟨st.tmps, st.vars, setO st.objs [(n, some (.box (cells.set j (.sl st.nx)))), (st.nx, some (.arr 0 k sz []))], st.nx + 1⟩ Kn Ke Kr) : W P vl nt V ac st Kn Ke Kr := by
  intro code hc c hV g act w hi hnm
  have hq : ¬ g.Nm st.nx := fun e => by have := hnm _ e; omega
  have hnq : n ≠ st.nx := fun e => hq (e ▸ hi.h.nm n _ hn)
  obtain ⟨g', hI, hx, hN, _⟩ := nil_step (q := st.nx) (k := k) (sz := sz) (h' := look (setO st.objs [(n, some (.box (cells.set j (.sl st.nx)))), (st.nx, some (.arr 0 k sz []))])) hi.h hq (fun m => m = n) (fun m e => e ▸ hnq) (by rw [look_setO]; simp [updF]) (fun m h1 h2 => by rw [look_setO]; simp [updF, h1, h2]) (fun m e => by
    subst e
    refine ⟨cells, cells.set j (.sl st.nx), hn, by rw [look_setO]; simp [updF, hnq], by simp, fun i a hi => ?_⟩
    rw [List.getElem?_set] at hi
    split at hi
    · rename_i e; subst e
      split at hi
      · cases hi; exact .inr ⟨rfl, k, sz, hj⟩
      · cases hi
    · exact .inl hi)
  refine h code hc c hV g' act w ⟨⟨fun s x hs => ?_, fun s x hs => ?_, hi.s.defers⟩, hI, hi.ntz, hi.pin⟩ fun m hm => ?_
  · obtain ⟨h1, h2, h3⟩ := hi.s.loc s x hs; exact ⟨h1, h2, h3.ext hx⟩
  · obtain ⟨h1, h2, h3⟩ := hi.s.var s x hs; exact ⟨h1, h2, h3.ext hx⟩
  · rcases hN m hm with h1 | rfl
    · exact Nat.lt_succ_of_lt (hnm m h1)
    · exact Nat.lt_succ_self _
theorem W_nilP {ac : ACode} (s j : Nat) {n o k sz : Nat} {cells : List A} (hs : look st.vars s = some (.ptr n o)) (hn : look st.objs n = some (.box cells)) (hj : cells[j]? = some (.nil k sz))
    (h : W P vl nt V ac ⟨st.tmps, st.vars, setO st.objs [(n, some (.box (cells.set j (.sl st.nx)))), (st.nx, some (.arr 0 k sz []))], st.nx + 1⟩ Kn Ke Kr) : W P vl nt V ac st Kn Ke Kr := W_nilB n j hn hj h
theorem W_nilV {ac : ACode} (s : Nat) {k sz : Nat} (hs : look st.vars s = some (.nil k sz))
    (h : W P vl nt V ac ⟨st.tmps, put st.vars s (.sl st.nx), setO st.objs [(st.nx, some (.arr 0 k sz []))], st.nx + 1⟩ Kn Ke Kr) : W P vl nt V ac st Kn Ke Kr := by
  intro code hc c hV g act w hi hnm
  have hq : ¬ g.Nm st.nx := fun e => by have := hnm _ e; omega
  obtain ⟨g', hI, hx, hN, hra⟩ := nil_step (q := st.nx) (k := k) (sz := sz) (h' := look (setO st.objs [(st.nx, some (.arr 0 k sz []))])) hi.h hq (fun _ => False) (fun _ e => e.elim) (by rw [look_setO]; simp [updF]) (fun m h1 h2 => by rw [look_setO]; simp [updF, h1]) (fun m e => e.elim)
  refine h code hc c hV g' act w ⟨⟨fun s x hs => ?_, fun s' x hs' => ?_, hi.s.defers⟩, hI, hi.ntz, hi.pin⟩ fun m hm => ?_
  · obtain ⟨h1, h2, h3⟩ := hi.s.loc s x hs; exact ⟨h1, h2, h3.ext hx⟩
  · change look (put st.vars s (.sl st.nx)) s' = some x at hs'
    rw [look_put] at hs'
    split at hs'
    · rename_i e; subst e
      cases hs'
      obtain ⟨h1, h2, h3⟩ := hi.s.var s' _ hs
      exact ⟨h1, h2, hra _ _ _ h3⟩
    · obtain ⟨h1, h2, h3⟩ := hi.s.var s' x hs'; exact ⟨h1, h2, h3.ext hx⟩
  · rcases hN m hm with h1 | rfl
    · exact Nat.lt_succ_of_lt (hnm m h1)
    · exact Nat.lt_succ_self _
end
end Go.Proofs.YtbjmakmahooaiaaGreat.Ab

set_option linter.unusedSimpArgs false
set_option linter.unusedVariables false
namespace Go.Proofs.YtbjmakmahooaiaaGreat.Ab
open Go.Proofs Go.Shelf Go.RowKit Go.Lib Go.Sort
variable {P : Program} {ρ : Ren} {sz : Nat}
theorem run_clear_rows (w : World) (t e ty : TypeId) (z : Value) (ht : P.underlying t = some (.slice e)) (hv : ∀ w, (zeroValue e).run P w = .ok z w) (h1 : ∀ u, u ∈ z.cells.toList → u.oneCell' = true) (b o n c : Nat) (hn : 0 < n) (hz : 0 < z.cells.size)
    (hc : ∀ j, j < n * z.cells.size → (w.cell? ⟨b, o + j, none⟩).isSome = true) (hf : ∀ j, j < n * z.cells.size → w.frozen? ⟨b, o + j, none⟩ = false) :
    (Builtin.clear_ #[t] ty #[.slice (some ⟨b, o, none⟩) n c]).run P w = .ok (.tuple #[]) (w.setCells b o (Builtin.zeroCells z.cells n).toList) := by
  have hl : (Builtin.zeroCells z.cells n).toList.length = n * z.cells.size := by simp [Builtin.zeroCells]
  have hst := run_storeCells_cells (P := P) b o (Builtin.zeroCells z.cells n).toList 0 w (by rw [hl]; simpa using hc) (by rw [hl]; simpa using hf) (by
    intro v hv'
    simp only [Builtin.zeroCells, Array.toList_map, List.mem_map] at hv'
    obtain ⟨i, _, rfl⟩ := hv'
    have hm : i % z.cells.size < z.cells.size := Nat.mod_lt _ hz
    rw [getElem!_pos z.cells _ hm]
    exact h1 _ (by simp))
  simp only [Nat.add_zero] at hst
  obtain ⟨m, rfl⟩ : ∃ m, n = m + 1 := ⟨n - 1, by omega⟩
  simp [Builtin.clear_, run_underlying ht, hv, hst]
set_option maxHeartbeats 4000000 in
set_option maxRecDepth 1000000 in
theorem delete_rows (L : SlLaysE0.n45 P ρ) (z : Value) (hv : ∀ w, (zeroValue (ρ.t 23)).run P w = .ok z w) (i0 : TypeInfo) (hi0 : P.info? (ρ.t 23) = some i0) (sz : Nat) (hz1 : i0.size = sz) (hzs : z.cells.size = sz) (hsz : 0 < sz) (h1 : ∀ u, u ∈ z.cells.toList → u.oneCell' = true)
    (z23 : ∀ w, (Go.sizeOf (ρ.t 23)).run P w = .ok sz w)
    (blk off len cap i j : Nat) (w : World) (hH : ∀ t, t < len * sz → ∃ u, w.cell? (at_ blk (off + t)) = some u ∧ u.oneCell' = true ∧ w.frozen? (at_ blk (off + t)) = false) (hcap : len ≤ cap) (hij : i < j) (hj : j ≤ len) :
    Calls P (ρ.f 45) #[.slice (some ⟨blk, off, none⟩) len cap, .int .i64 i, .int .i64 j] w fun e w' => e = .returned (.slice (some ⟨blk, off, none⟩) (len - (j - i)) cap) ∧
      ∃ q news zs, news.length = (len - j) * sz ∧ (∀ t u, news[t]? = some u → w.cell? (at_ blk (off + j * sz + t)) = some u) ∧ zs.length = (j - i) * sz ∧ w' = ((Sort.ahead w q).setCells blk (off + i * sz) news).setCells blk (off + (i + (len - j)) * sz) zs := by
  have mixed := L.mixed; have t0 := L.t0; have a0 := L.a0; have z0 := L.z0; have v0 := L.v0; have t3 := L.t3; have a3 := L.a3; have z3 := L.z3; have v3 := L.v3; have t4 := L.t4; have a4 := L.a4; have z4 := L.z4; have v4 := L.v4; have t22 := L.t22; have a22 := L.a22; have z22 := L.z22; have v22 := L.v22
  have hget : ∀ t, t < len * sz → ∃ u, w.cell? (at_ blk (off + t)) = some u := fun t ht => let ⟨u, h, _⟩ := hH t ht; ⟨u, h⟩
  have hjl : j * sz + (len - j) * sz = len * sz := by rw [← Nat.add_mul]; congr 1; omega
  have hil : i * sz + (len - j) * sz ≤ len * sz := by rw [← Nat.add_mul]; exact Nat.mul_le_mul_right _ (by omega)
  have hml : (i + (len - j)) * sz + (j - i) * sz = len * sz := by rw [← Nat.add_mul]; congr 1; omega
  obtain ⟨news, hnews⟩ : ∃ news, news = (List.range ((len - j) * sz)).map fun t => (w.cell? (at_ blk (off + j * sz + t))).getD Go.undef := ⟨_, rfl⟩
  have hlen : news.length = (len - j) * sz := by rw [hnews]; simp
  have hn : ∀ t u, news[t]? = some u → w.cell? (at_ blk (off + j * sz + t)) = some u ∧ u.oneCell' = true := by
    intro t u hu
    rw [hnews, List.getElem?_map] at hu
    obtain ⟨t', h', hu⟩ := Option.map_eq_some_iff.1 hu
    obtain ⟨ht, ht'⟩ := List.getElem?_eq_some_iff.1 h'
    simp at ht ht'
    subst ht'
    obtain ⟨u', h1', h2', _⟩ := hH (j * sz + t) (by omega)
    rw [show off + (j * sz + t) = off + j * sz + t by omega] at h1'
    rw [h1'] at hu
    simp at hu
    subst hu
    exact ⟨h1', h2'⟩
  obtain ⟨A, hA, hsrc⟩ : ∃ A : Addr, (if cap = j then some (⟨blk, off, none⟩ : Addr) else some ⟨blk, off + j * sz, none⟩) = some A ∧ Hid (∀ t u, news[t]? = some u → w.drew.cell? (A.add t) = some u) := by
    by_cases h : cap = j
    · refine ⟨⟨blk, off, none⟩, by simp [h], fun t u hu => ?_⟩
      have h0 : news.length = 0 := by rw [hlen, show len - j = 0 by omega, Nat.zero_mul]
      rw [List.length_eq_zero_iff.1 h0] at hu
      simp at hu
    · refine ⟨⟨blk, off + j * sz, none⟩, by simp [h], fun t u hu => ?_⟩
      rw [Addr.add_lit]
      exact (hn t u hu).1
  have s1 : Hid (news.length = (len - j) * sz) := hlen
  have s2 : Hid (∀ u ∈ news, u.oneCell' = true) := by
    intro u hu
    obtain ⟨t, ht⟩ := List.getElem?_of_mem hu
    exact (hn t u ht).2
  have s3 : Hid (∀ t, t < news.length → (w.drew.cell? ⟨blk, off + i * sz + t, none⟩).isSome = true ∧ w.drew.frozen? ⟨blk, off + i * sz + t, none⟩ = false) := by
    intro t ht
    rw [hlen] at ht
    rw [Nat.add_assoc]
    obtain ⟨u, h1', h2', h3'⟩ := hH (i * sz + t) (by omega)
    exact ⟨by show (w.cell? _).isSome = true; rw [h1']; rfl, h3'⟩
  obtain ⟨W1, hW1⟩ : ∃ W1, W1 = w.drew.setCells blk (off + i * sz) news := ⟨_, rfl⟩
  have hcell : ∀ x : Addr, (w.cell? x).isSome = true → (W1.cell? x).isSome = true := by
    intro x hx
    rw [hW1]
    exact World.isSome_setCells blk news _ w.drew x hx
  have hcl : ∀ ty, (Builtin.clear_ #[ρ.t 22] ty #[.slice (some ⟨blk, off + (i + (len - j)) * sz, none⟩) (len - (i + (len - j))) (cap - (i + (len - j)))]).run P W1 = .ok (.tuple #[]) (W1.setCells blk (off + (i + (len - j)) * sz) (Builtin.zeroCells z.cells (len - (i + (len - j)))).toList) := by
    intro ty
    refine run_clear_rows W1 _ _ ty z t22 hv h1 blk _ _ _ (by omega) (by omega) ?_ ?_
    · intro t ht
      rw [hzs, show len - (i + (len - j)) = j - i by omega] at ht
      obtain ⟨u, h1', _⟩ := hH ((i + (len - j)) * sz + t) (by omega)
      refine hcell _ ?_
      rw [show off + (i + (len - j)) * sz + t = off + ((i + (len - j)) * sz + t) by omega]
      rw [h1']; rfl
    · intro t ht
      rw [hzs, show len - (i + (len - j)) = j - i by omega] at ht
      obtain ⟨u, h1', _, h3'⟩ := hH ((i + (len - j)) * sz + t) (by omega)
      rw [hW1, World.frozen?_setCells, show off + (i + (len - j)) * sz + t = off + ((i + (len - j)) * sz + t) by omega]
      exact h3'
  have hW : Hid (W1 = w.drew.setCells blk (off + i * sz) news) := hW1
  have hic : i ≤ cap := by omega
  have hjc : j ≤ cap := by omega
  obtain ⟨zs, hzs'⟩ : ∃ zs, (Builtin.zeroCells z.cells (len - (i + (len - j)))).toList = zs := ⟨_, rfl⟩
  rw [hzs'] at hcl
  have hzl : Hid (zs.length = (j - i) * sz) := by rw [← hzs']; show _ = _; simp [Builtin.zeroCells, hzs]; congr 1; omega
  have hnn : Hid (∀ t u, news[t]? = some u → w.cell? (at_ blk (off + j * sz + t)) = some u) := fun t u h => (hn t u h).1
  clear hW1 hH hget hn hnews hlen hcell hzs'
  obtain ⟨_, _, FG⟩ := L.f45
  go_enter FG, SlBodyN.n45_ntmps ρ
  go_wp2_with fail
  go_region_law_o (refine step_append_room rfl (.tmp 22) (.tmp 25) (ρ.t 22) rfl (ρ.t 23) i0 sz t22 hi0 hz1 blk off i cap (by simp [Act.eval, Act.put]) A (len - j) (cap - j) news (by simp [Act.eval, Act.put]) s1.out hsrc.out s2.out (by omega) s3.out ?_; rw [← hW.out])
  go_wp2
  go_ret
  refine ⟨by rw [show len - (j - i) = i + (len - j) by omega]; rfl, 1, news, zs, s1.out, hnn.out, hzl.out, ?_⟩
  rw [hW.out]
  rfl
theorem own_perm {w w' : World} {Fz : PSet} {k sz b off cap : Nat} {rows rows' : List (List D)} {T : Nat → PSet} (σ : Nat → Nat)
    (h1 : rows'.length ≤ cap) (hrow' : ∀ r, r ∈ rows' → r.length = sz) (h4 : ∀ m d, rows.flatten[m]? = some d → ∃ u, w.cell? (at_ b (off + m)) = some u ∧ Own w Fz k u d (T m)) (hd : Disj rows.flatten.length T)
    (h6 : ∀ m, m < rows.flatten.length → ∀ x y, rng b off (cap * sz) x y → ¬ T m x y)
    (hσ : ∀ m d, rows'.flatten[m]? = some d → rows.flatten[σ m]? = some d ∧ w'.cell? (at_ b (off + m)) = w.cell? (at_ b (off + σ m))) (hinj : ∀ m n, m ≠ n → σ m ≠ σ n)
    (hk : ∀ x y, x < w.heap.size → ¬ rng b off (cap * sz) x y → w'.cell? (at_ x y) = w.cell? (at_ x y) ∧ w'.frz? (at_ x y) = w.frz? (at_ x y)) (hfz : ∀ x y, Fz x y → x < w.heap.size ∧ ¬ rng b off (cap * sz) x y) (hroom' : Room w' b off (cap * sz)) :
    Own w' Fz (k + 1) (.slice (some (at_ b off)) rows'.length cap) (.slc sz rows') (fun x y => rng b off (cap * sz) x y ∨ ∃ m, m < rows'.flatten.length ∧ T (σ m) x y) := by
  have hlt : ∀ m, m < rows'.flatten.length → σ m < rows.flatten.length := fun m hm => mem_len (hσ m _ (List.getElem?_eq_getElem hm)).1
  refine .inr ⟨b, off, cap, fun m => T (σ m), rfl, h1, hroom', hrow', ?_, ?_, ?_, fun x y => Iff.rfl⟩
  · intro m d hm
    obtain ⟨e1, e2⟩ := hσ m d hm
    obtain ⟨u, hu, ho⟩ := h4 _ _ e1
    exact ⟨u, e2.trans hu, ho.mono (fun _ _ h => h) (fun x y h => hk x y (hfz x y h).1 (hfz x y h).2) k (fun x y h => hk x y (ho.lt k x y h) fun hr => h6 _ (mem_len e1) x y hr h)⟩
  · intro m n hm hn hne
    exact hd _ _ (hlt m hm) (hlt n hn) (hinj m n hne)
  · intro m hm x y hr
    exact h6 _ (hlt m hm) x y hr
theorem inplace_valid {G : GV} {f : FuncId} (ds : List D) {k sz : Nat} {rows rows' : List (List D)} (hgo : Goes P f) (hle : rows'.length ≤ rows.length) (hrow' : ∀ r, r ∈ rows' → r ∈ rows)
    (hnil : ∀ (w : World) (Fz : PSet) (args : Array Value), rows = [] → args.size = ds.length + 1 → args.getD 0 Go.undef = .slice none 0 0 → (∀ (i : Nat) d, ds[i]? = some d → Shr w Fz (args.getD (i + 1) Go.undef) d) →
      Calls P f args w fun e w' => e = .returned (.slice none 0 0) ∧ w' = w)
    (h : ∀ (w : World) (Fz : PSet) (args : Array Value) (b off cap : Nat), (∀ b p, G b = some p → ∃ ob, w.heap[b]? = some ob ∧ p ob) → args.size = ds.length + 1 → args.getD 0 Go.undef = .slice (some (at_ b off)) rows.length cap → (∀ (i : Nat) d, ds[i]? = some d → Shr w Fz (args.getD (i + 1) Go.undef) d) →
      rows.length ≤ cap → (∀ r, r ∈ rows → r.length = sz) → Room w b off (cap * sz) → (∀ m d, rows.flatten[m]? = some d → ∃ u, w.cell? (at_ b (off + m)) = some u ∧ u.oneCell' = true ∧ (k = 0 → Shr w Fz u d)) →
      Calls P f args w fun e w' => e = .returned (.slice (some (at_ b off)) rows'.length cap) ∧ (w'.os = w.os ∧ w'.output = w.output) ∧ w.heap.size ≤ w'.heap.size ∧ (∀ x, x < w.heap.size → (x = b → cap * sz = 0) → w'.heap[x]? = w.heap[x]?) ∧
        (∀ y, ¬ (off ≤ y ∧ y < off + cap * sz) → w'.cell? (at_ b y) = w.cell? (at_ b y)) ∧ (∀ y, w'.frz? (at_ b y) = w.frz? (at_ b y)) ∧ (∀ y, (w.cell? (at_ b y)).isSome = true → (w'.cell? (at_ b y)).isSome = true) ∧
        ∃ σ : Nat → Nat, (∀ m n, m ≠ n → σ m ≠ σ n) ∧ ∀ m d, rows'.flatten[m]? = some d → rows.flatten[σ m]? = some d ∧ w'.cell? (at_ b (off + m)) = w.cell? (at_ b (off + σ m))) :
    Valid P G f (.own k sz rows :: ds.map .d) (.own k sz rows') (List.replicate (ds.length + 1) none) := by
  refine ⟨hgo, fun w args Fz U hG hFz hRC hap => ?_⟩
  obtain ⟨hl, hRC, hdis⟩ := hRC
  have hl' : args.size = ds.length + 1 := by simpa using hl
  have h0 := hRC 0 _ rfl
  have hS : ∀ (i : Nat) d, ds[i]? = some d → Shr w Fz (args.getD (i + 1) Go.undef) d := by
    intro i d hd
    have h1 := hRC (i + 1) (.d d) (by simp [hd])
    generalize args.getD (i + 1) Go.undef = v1 at h1
    cases h1
    assumption
  have hout : ∀ (m : Nat) (c : C), (List.replicate (ds.length + 1) (none : Option C))[m]? ≠ some (some c) := by
    intro m c hm
    rw [List.getElem?_replicate] at hm
    split at hm <;> cases hm
  generalize hv0 : args.getD 0 Go.undef = v0 at h0
  have hap0 := hap 0 (by simp)
  have hU0 : ∀ x y, U 0 x y → ∃ i, i < (C.own k sz rows :: ds.map C.d).length ∧ U i x y := fun x y h => ⟨0, by simp, h⟩
  generalize U 0 = S0 at h0 hap0 hU0
  cases h0 with | own _ _ _ _ _ ho => ?_
  rcases ho with ⟨rfl, rfl, _⟩ | ⟨b, off, cap, T, rfl, h1, h2, h3, h4, h5, h6, h7⟩
  · refine (hnil w Fz args rfl hl' hv0 hS).mono ?_
    rintro e w' ⟨rfl, rfl⟩
    have hr' : rows' = [] := by simpa using hle
    subst hr'
    exact ⟨_, Fz, fun _ _ _ => False, rfl, ⟨rfl, rfl⟩, Nat.le_refl _, fun _ _ _ => rfl, fun _ _ _ _ => ⟨rfl, rfl⟩, fun _ _ h => h, hFz, fun _ _ h => .inl h, .own _ _ _ _ _ (.inl ⟨rfl, rfl, fun _ _ h => h⟩), fun m c hm => absurd hm (hout m c), fun _ _ _ _ _ h => h.elim, fun _ _ _ h => h.elim⟩
  · refine (h w Fz args b off cap (fun b p hb => (hG b p hb).2) hl' hv0 hS h1 h3 h2 (fun m d hm => ?_)).mono ?_
    · obtain ⟨u, hu, hou⟩ := h4 m d hm
      exact ⟨u, hu, hou.one, fun hk => by subst hk; exact hou.1⟩
    rintro e w' ⟨rfl, hside, hsize, hblk, hcell, hfrz, hsome, σ, hinj, hσ⟩
    have hkx : ∀ x y, x < w.heap.size → ¬ rng b off (cap * sz) x y → w'.cell? (at_ x y) = w.cell? (at_ x y) ∧ w'.frz? (at_ x y) = w.frz? (at_ x y) := by
      intro x y hx hn
      by_cases hxb : x = b
      · subst hxb
        exact ⟨hcell y fun hy => hn ⟨rfl, hy⟩, hfrz y⟩
      · exact keep_of_heap (hblk x hx fun e => absurd e hxb) y
    have hS0 : ∀ x y, rng b off (cap * sz) x y → S0 x y := fun x y hr => (h7 x y).2 (.inl hr)
    have hroom' : Room w' b off (cap * sz) := by
      intro o ho
      obtain ⟨⟨u, hu⟩, hf⟩ := h2 o ho
      exact ⟨Option.isSome_iff_exists.1 (hsome _ (by rw [hu]; rfl)), (hfrz _).trans hf⟩
    have hown := own_perm (Fz := Fz) (rows' := rows') σ (by omega) (fun r hr => h3 r (hrow' r hr)) h4 h5 h6 hσ hinj hkx (fun x y hf => ⟨hFz x y hf, fun hr => hap0 x y (hS0 x y hr) hf⟩) hroom'
    have hlt : ∀ m, m < rows'.flatten.length → σ m < rows.flatten.length := fun m hm => mem_len (hσ m _ (List.getElem?_eq_getElem hm)).1
    have hsub : ∀ x y, (rng b off (cap * sz) x y ∨ ∃ m, m < rows'.flatten.length ∧ T (σ m) x y) → S0 x y := by
      rintro x y (hr | ⟨m, hm, ht⟩)
      · exact hS0 x y hr
      · exact (h7 x y).2 (.inr ⟨_, hlt m hm, ht⟩)
    have hSlt : ∀ x y, S0 x y → x < w.heap.size := by
      intro x y hs
      rcases (h7 x y).1 hs with ⟨rfl, e1, e2⟩ | ⟨m, hm, ht⟩
      · obtain ⟨⟨u, hu⟩, _⟩ := h2 (y - off) (by omega)
        exact cell_lt hu
      · obtain ⟨u, hu, ho⟩ := h4 m _ (List.getElem?_eq_getElem hm)
        exact ho.lt k x y ht
    refine ⟨_, Fz, fun i => if i = 0 then (fun x y => rng b off (cap * sz) x y ∨ ∃ m, m < rows'.flatten.length ∧ T (σ m) x y) else fun _ _ => False, rfl, hside, hsize, ?_, ?_, fun _ _ h => h, fun x y h => Nat.lt_of_lt_of_le (hFz x y h) hsize, fun _ _ h => .inl h, .own _ _ _ _ _ hown, fun m c hm => absurd hm (hout m c), ?_, ?_⟩
    · intro x hx hno
      refine hblk x hx fun hxb => ?_
      subst hxb
      by_cases h0 : cap * sz = 0
      · exact h0
      · exact absurd (hU0 x off (hS0 x off ⟨rfl, Nat.le_refl _, by omega⟩)) (hno off)
    · intro x y hx hno
      exact hkx x y hx fun hr => hno (hU0 x y (hS0 x y hr))
    · intro i j hij x y hi hj
      by_cases h0 : i = 0
      · subst h0
        rw [if_neg (by omega)] at hj
        exact hj
      · simp only [h0, if_false] at hi
    · intro i x y hx
      by_cases h0 : i = 0
      · subst h0
        have := hsub x y hx
        exact ⟨.inl (hU0 x y this), hap0 x y this, Nat.lt_of_lt_of_le (hSlt x y this) hsize⟩
      · simp only [h0, if_false] at hx
theorem flat_dropN {rows : List (List D)} {sz : Nat} (h : ∀ r, r ∈ rows → r.length = sz) {j : Nat} (hj : j ≤ rows.length) : (rows.drop j).flatten = rows.flatten.drop (j * sz) := by
  induction j generalizing rows with
  | zero => simp
  | succ j ih =>
    cases rows with
    | nil => simp at hj
    | cons r rs =>
      have hr := h r (by simp)
      simp only [List.drop_succ_cons, List.flatten_cons]
      rw [ih (fun r hr => h r (by simp [hr])) (by simpa using hj), List.drop_append, List.drop_of_length_le (show r.length ≤ (j + 1) * sz by rw [hr, Nat.add_mul]; omega), List.nil_append, hr]
      congr 1
      rw [Nat.add_mul]
      omega
theorem setCells_many (b : Nat) : ∀ (vs : List Value) (w : World) (q : Nat), w.setCells b q vs = setMany w b q vs := by
  intro vs
  induction vs with
  | nil => intro w q; rfl
  | cons v vs ih => intro w q; exact ih _ _
set_option maxHeartbeats 4000000 in
set_option maxRecDepth 1000000 in
theorem delete_same (L : SlLaysE0.n45 P ρ) (z23 : ∀ w, (Go.sizeOf (ρ.t 23)).run P w = .ok sz w) (b off len cap i : Nat) (w : World) (hcap : len ≤ cap) (hi : i ≤ len) : Calls P (ρ.f 45) #[.slice (some ⟨b, off, none⟩) len cap, .int .i64 i, .int .i64 i] w fun e w' => e = .returned (.slice (some ⟨b, off, none⟩) len cap) ∧ w' = w := by
  have mixed := L.mixed; have t0 := L.t0; have a0 := L.a0; have z0 := L.z0; have v0 := L.v0; have t3 := L.t3; have a3 := L.a3; have z3 := L.z3; have v3 := L.v3; have t4 := L.t4; have a4 := L.a4; have z4 := L.z4; have v4 := L.v4; have t22 := L.t22; have a22 := L.a22; have z22 := L.z22; have v22 := L.v22
  obtain ⟨_, _, FG⟩ := L.f45
  go_enter FG, SlBodyN.n45_ntmps ρ
  go_wp2
  all_goals (go_ret; exact ⟨rfl, rfl⟩)
set_option maxHeartbeats 4000000 in
set_option maxRecDepth 1000000 in
theorem delete_nil (L : SlLaysE0.n45 P ρ) (z23 : ∀ w, (Go.sizeOf (ρ.t 23)).run P w = .ok sz w) (w : World) : Calls P (ρ.f 45) #[.slice none 0 0, .int .i64 0, .int .i64 0] w fun e w' => e = .returned (.slice none 0 0) ∧ w' = w := by
  have mixed := L.mixed; have t0 := L.t0; have a0 := L.a0; have z0 := L.z0; have v0 := L.v0; have t3 := L.t3; have a3 := L.a3; have z3 := L.z3; have v3 := L.v3; have t4 := L.t4; have a4 := L.a4; have z4 := L.z4; have v4 := L.v4; have t22 := L.t22; have a22 := L.a22; have z22 := L.z22; have v22 := L.v22
  obtain ⟨_, _, FG⟩ := L.f45
  go_enter FG, SlBodyN.n45_ntmps ρ
  go_wp2
  all_goals (go_ret; exact ⟨rfl, rfl⟩)
theorem info_runs {t : TypeId} {i : TypeInfo} {z : Value} (hi : P.info? t = some i) (hz : i.zero = some z) : (∀ w, (zeroValue t).run P w = .ok z w) ∧ ∀ w, (Go.sizeOf t).run P w = .ok i.size w := by
  refine ⟨fun w => ?_, fun w => ?_⟩
  · simp [zeroValue, run_typeInfo w hi, hz]
  · simp [Go.sizeOf, run_typeInfo w hi]
theorem delete_valid {G : GV} (L : SlLaysE0.n45 P ρ) (hgo : Goes P (ρ.f 45)) (hck : ((P.info? (ρ.t 23)).map fun i => (i.size, (i.zero.map fun z => (z.cells.size, z.cells.toList.all fun u => u.oneCell')))) = some (sz, some (sz, true))) (hsz : 0 < sz)
    {k : Nat} {rows : List (List D)} (i j : Nat) (hij : i ≤ j) (hj : j ≤ rows.length) : Valid P G (ρ.f 45) [.own k sz rows, .d (.int .i64 i), .d (.int .i64 j)] (.own k sz (rows.take i ++ rows.drop j)) [none, none, none] := by
  obtain ⟨i0, hi0⟩ : ∃ i0, P.info? (ρ.t 23) = some i0 := by
    cases hh : P.info? (ρ.t 23) with
    | none => rw [hh] at hck; cases hck
    | some i0 => exact ⟨i0, rfl⟩
  rw [hi0] at hck
  simp only [Option.map_some, Option.some.injEq, Prod.mk.injEq] at hck
  obtain ⟨hz1, hz2⟩ := hck
  obtain ⟨z, hz⟩ : ∃ z, i0.zero = some z := by
    cases hh : i0.zero with
    | none => rw [hh] at hz2; cases hz2
    | some z => exact ⟨z, rfl⟩
  rw [hz] at hz2
  simp only [Option.map_some, Option.some.injEq, Prod.mk.injEq, List.all_eq_true] at hz2
  obtain ⟨hzs, hz3⟩ := hz2
  obtain ⟨hv, z23⟩ := info_runs hi0 hz
  rw [hz1] at z23
  have hargs : ∀ (w : World) (Fz : PSet) (args : Array Value) (v : Value), args.size = 3 → args.getD 0 Go.undef = v → (∀ (q : Nat) d, [D.int .i64 i, D.int .i64 j][q]? = some d → Shr w Fz (args.getD (q + 1) Go.undef) d) → args = #[v, .int .i64 i, .int .i64 j] := by
    intro w Fz args v hl h0 h
    refine args_eq (l := [v, .int .i64 i, .int .i64 j]) hl fun q u hu => ?_
    match q, hu with
    | 0, hu => cases hu; exact h0
    | 1, hu => cases hu; exact shr_int (h 0 _ rfl)
    | 2, hu => cases hu; exact shr_int (h 1 _ rfl)
  refine inplace_valid (rows' := rows.take i ++ rows.drop j) [.int .i64 i, .int .i64 j] hgo (by simp; omega) (fun r hr => by
    rcases List.mem_append.1 hr with h | h
    · exact List.mem_of_mem_take h
    · exact List.mem_of_mem_drop h) ?_ ?_
  · intro w Fz args hnil hl h0 h
    rw [hargs w Fz args _ hl h0 h]
    subst hnil
    have hj0 : j = 0 := by simpa using hj
    have hi0 : i = 0 := by omega
    subst hj0 hi0
    exact delete_nil L z23 w
  · intro w Fz args b off cap _ hl h0 h hcap hrow hroom hcells
    rw [hargs w Fz args _ hl h0 h]
    by_cases heq : i = j
    · subst heq
      refine (delete_same L z23 b off rows.length cap i w hcap hj).mono ?_
      rintro e w' ⟨rfl, rfl⟩
      refine ⟨by simp, ⟨rfl, rfl⟩, Nat.le_refl _, fun _ _ _ => rfl, fun _ _ => rfl, fun _ => rfl, fun _ h => h, id, fun _ _ h => h, fun m d hm => ⟨by simpa using hm, rfl⟩⟩
    · have hfl := flat_len hrow
      have hle : rows.length * sz ≤ cap * sz := Nat.mul_le_mul_right _ hcap
      refine (delete_rows L z hv i0 hi0 sz hz1 hzs hsz hz3 z23 b off rows.length cap i j w (fun t ht => ?_) hcap (by omega) hj).mono ?_
      · obtain ⟨u, h1, h2, _⟩ := hcells t _ (List.getElem?_eq_getElem (by omega))
        exact ⟨u, h1, h2, frozen_of h1 (hroom t (by omega)).2⟩
      · rintro e w' ⟨rfl, q, news, zs, hn, hnews, hzl, rfl⟩
        have hjl : j * sz + (rows.length - j) * sz = rows.length * sz := by rw [← Nat.add_mul]; congr 1; omega
        have hil : i * sz + (rows.length - j) * sz + (j - i) * sz = rows.length * sz := by rw [← Nat.add_mul, ← Nat.add_mul]; congr 1; omega
        have hml : (i + (rows.length - j)) * sz = i * sz + (rows.length - j) * sz := Nat.add_mul _ _ _
        have hjs : j * sz = i * sz + (j - i) * sz := by rw [← Nat.add_mul]; congr 1; omega
        have hlen' : (rows.take i ++ rows.drop j).length = rows.length - (j - i) := by simp; omega
        rw [hlen', hml]
        obtain ⟨w1, hw1⟩ : ∃ w1, Sort.ahead w q = w1 := ⟨_, rfl⟩
        have hh1 : w1.heap = w.heap := by rw [← hw1]; rfl
        have hc1 : ∀ x, w1.cell? x = w.cell? x := fun x => by unfold World.cell?; rw [hh1]
        have hf1 : ∀ x, w1.frz? x = w.frz? x := fun x => by unfold World.frz?; rw [hh1]
        rw [hw1]
        have hin : ∀ t (h : t < news.length), (w1.setCells b (off + i * sz) news).cell? (at_ b (off + i * sz + t)) = some news[t] := fun t ht =>
          World.cell?_setCells_in b news _ w1 (fun t ht => by
            rw [hc1]
            obtain ⟨u, h1, _⟩ := hcells (i * sz + t) _ (List.getElem?_eq_getElem (by omega))
            show (w.cell? (at_ b (off + i * sz + t))).isSome = true
            rw [Nat.add_assoc, h1]; rfl) t ht
        refine ⟨rfl, ?_, ?_, ?_, ?_, ?_, ?_, fun m => if m < i * sz then m else m + (j - i) * sz, ?_, ?_⟩
        · rw [setCells_many, setCells_many]
          have e1 := setMany_side b zs (setMany w1 b (off + i * sz) news) (off + (i * sz + (rows.length - j) * sz))
          have e2 := setMany_side b news w1 (off + i * sz)
          have e3 : w1.os = w.os ∧ w1.output = w.output := by rw [← hw1]; exact ⟨rfl, rfl⟩
          exact ⟨e1.1.trans (e2.1.trans e3.1), e1.2.trans (e2.2.trans e3.2)⟩
        · rw [setCells_many, setCells_many, setMany_size, setMany_size, hh1]; exact Nat.le_refl _
        · intro x hx hxb
          have hxb' : x ≠ b := fun e => by have := hxb e; have : 1 * sz ≤ cap * sz := Nat.mul_le_mul_right _ (by omega); omega
          rw [setCells_many, setCells_many, setMany_heap b hxb', setMany_heap b hxb', hh1]
        · intro y hy
          rw [World.cell?_setCells_out b zs _ _ _ (fun _ _ => by show y < _ ∨ _ ≤ y; omega), World.cell?_setCells_out b news _ _ _ (fun _ _ => by show y < _ ∨ _ ≤ y; omega), hc1]
        · intro y
          rw [setCells_many, setCells_many, setMany_frozen, setMany_frozen, hf1]
        · intro y hy
          exact World.isSome_setCells b zs _ _ _ (World.isSome_setCells b news _ _ _ (by rw [hc1]; exact hy))
        · intro m n hmn
          simp only
          split <;> split <;> omega
        · intro m d hm
          have hfa : (rows.take i ++ rows.drop j).flatten = rows.flatten.take (i * sz) ++ rows.flatten.drop (j * sz) := by
            rw [List.flatten_append, flat_dropN hrow hj, flat_take hrow i (by omega)]
          rw [hfa] at hm
          have hout2 : ∀ _ : Nat, off + m < off + (i * sz + (rows.length - j) * sz) → ((w1.setCells b (off + i * sz) news).setCells b (off + (i * sz + (rows.length - j) * sz)) zs).cell? (at_ b (off + m)) = (w1.setCells b (off + i * sz) news).cell? (at_ b (off + m)) := fun _ hy =>
            World.cell?_setCells_out b zs _ _ _ (fun _ _ => .inl hy)
          have l1 : (rows.flatten.take (i * sz)).length = i * sz := by rw [List.length_take]; omega
          dsimp only
          by_cases hmi : m < i * sz
          · rw [if_pos hmi]
            rw [List.getElem?_append_left (by rw [l1]; omega), List.getElem?_take, if_pos hmi] at hm
            refine ⟨hm, ?_⟩
            rw [hout2 0 (by omega), World.cell?_setCells_out b news _ _ _ (fun _ _ => .inl (show off + m < off + i * sz by omega)), hc1]
          · rw [if_neg hmi]
            rw [List.getElem?_append_right (by rw [l1]; omega), l1, List.getElem?_drop] at hm
            have hmm : m + (j - i) * sz = j * sz + (m - i * sz) := by omega
            have hlt := (List.getElem?_eq_some_iff.1 hm).1
            rw [hmm]
            refine ⟨hm, ?_⟩
            rw [hout2 0 (by omega)]
            have := hin (m - i * sz) (by omega)
            rw [show off + i * sz + (m - i * sz) = off + m by omega] at this
            rw [this, ← Nat.add_assoc, hnews _ _ (List.getElem?_eq_getElem (by omega))]
end Go.Proofs.YtbjmakmahooaiaaGreat.Ab

namespace Go.Proofs
open Go.Shelf Go.RowKit Go.Lib
variable {P : Program} {ρ : Ren}
set_option maxHeartbeats 2000000 in
set_option maxRecDepth 100000 in
theorem clone_zero (L : SlLaysE0.n41 P ρ) (i0 : TypeInfo) (z : Value) (size bytes : Nat) (hi : P.info? (ρ.t 23) = some i0) (hz0 : i0.zero = some z) (hz1 : i0.size = size) (hz2 : i0.bytes = bytes) (hzs : z.cells.size = size) (hsz : 0 < size)
    (z23 : ∀ w, (Go.sizeOf (ρ.t 23)).run P w = .ok size w) (a : Addr) (c : Nat) (w : World) :
    Calls P (ρ.f 41) #[.slice (some a) 0 c] w fun e w' => ∃ v', e = .returned v' ∧ w'.ownsRow w.heap.size (ρ.t 23) size v' 0 [] ∧ Below w.heap.size w w' := by
  have mixed := L.mixed; have t4 := L.t4; have a4 := L.a4; have z4 := L.z4; have v4 := L.v4; have t22 := L.t22; have a22 := L.a22; have z22 := L.z22; have v22 := L.v22
  have q22 : ∀ (w : World) (a : Option Addr) (n c n' c' : Nat), (binOp .eql (ρ.t 22) (.slice a n c) (.slice none n' c')).run P w = .ok (.bool a.isNone) w := fun w a n c n' c' => Lib.run_eql_slice_nil w _ _ a n c n' c' L.t22
  have u22 : ∀ w, Sem.run P (underlying (ρ.t 22)) w = .ok (TypeDesc.slice (ρ.t 23)) w := run_underlying t22
  obtain ⟨_, _, FG⟩ := L.f41
  go_enter FG, SlBodyN.n41_ntmps ρ
  go_wp2_with (at_builtin; refine wpList_append_own _ rfl _ _ (ρ.t 22) rfl w.heap.size (ρ.t 23) i0 z size bytes t22 hi hz0 hz1 hz2 hzs hsz _ _ _ rfl (World.ownsRow_made w #[] 0 (Nat.le_refl _) (Nat.zero_le _) (by simp)) a 0 c [] rfl ?qc1 ?qc2 ?qc3 ?qc4 ?qc5 ?qc6 ?_)
  case qc1 => simp
  case qc2 => intro j u hj; simp at hj
  case qc3 => intro u hu; simp at hu
  case qc4 => simp
  case qc5 => simp
  case qc6 => simp
  intro v' w1 hown hgrow hnil
  go_wp2
  go_ret
  exact ⟨v', rfl, by simpa using hown, ((Below.refl _ w).alloc (Nat.le_refl _) _).grown hgrow (by simp) (by intro k hk; simp [Value.ownBlock] at hk; omega)⟩
end Go.Proofs
namespace Go.Proofs.YtbjmakmahooaiaaGreat.Ab
open Go.Proofs Go.Shelf Go.RowKit Go.Lib
theorem own_rowG {w : World} {Fz : PSet} {base sz : Nat} {e : TypeId} {v : Value} {rows : List (List D)} {xs : List Value} (h : w.ownsRow base e sz v rows.length xs) (hrow : ∀ row, row ∈ rows → row.length = sz)
    (hs : ∀ (m : Nat) d, rows.flatten[m]? = some d → ∃ u, xs[m]? = some u ∧ Shr w Fz u d) : ∃ S, Own w Fz 1 v (.slc sz rows) S ∧ ∀ x y, S x y → base ≤ x ∧ x < w.heap.size := by
  obtain ⟨hl, h⟩ := h
  rcases h with ⟨rfl, hz⟩ | ⟨g, cap, cur, rfl, hb, hg, hnc, _, hsz, htk⟩
  · have : rows = [] := List.length_eq_zero_iff.1 hz
    subst this
    exact ⟨fun _ _ => False, .inl ⟨rfl, rfl, fun _ _ h => h⟩, fun _ _ h => h.elim⟩
  · have hlt : g < w.heap.size := by
      rcases Nat.lt_or_ge g w.heap.size with h | h
      · exact h
      · rw [Array.getElem?_eq_none h] at hg; cases hg
    have hcell : ∀ o, o < cap * sz → w.cell? (at_ g (0 + o)) = some (cur.getD o Go.undef) := by
      intro o ho
      have ho2 : o < cur.size := by omega
      unfold World.cell?
      rw [show (at_ g (0 + o)).block = g from rfl, hg]
      simp [Array.getD_eq_getD_getElem?, ho2]
    have hle : rows.length * sz ≤ cap * sz := Nat.mul_le_mul_right _ hnc
    refine ⟨rng g 0 (cap * sz), .inr ⟨g, 0, cap, fun _ _ _ => False, rfl, hnc, ?_, hrow, ?_, fun _ _ _ _ _ _ _ h => h.elim, fun _ _ _ _ _ h => h, fun x y => ?_⟩, ?_⟩
    · intro o ho
      refine ⟨⟨_, hcell o (by omega)⟩, ?_⟩
      unfold World.frz?
      rw [show (at_ g (0 + o)).block = g from rfl, hg]
      simp
    · intro m d hm
      have hml := mem_len hm
      rw [flat_len hrow] at hml
      obtain ⟨u, hu, hsu⟩ := hs m d hm
      refine ⟨_, hcell m (by omega), ?_⟩
      have hc : cur.toList[m]? = some u := by
        have h1 : (cur.toList.take (rows.length * sz))[m]? = some u := by rw [htk, hu]
        rw [List.getElem?_take_of_lt hml] at h1
        exact h1
      rw [Array.getD_eq_getD_getElem?, ← Array.getElem?_toList, hc]
      exact ⟨hsu, fun _ _ h => h⟩
    · constructor
      · intro h; exact .inl h
      · rintro (h | ⟨_, _, h⟩)
        · exact h
        · exact h.elim
    · rintro x y ⟨rfl, _, _⟩
      exact ⟨hb, hlt⟩
theorem clone_valid {P : Program} {GG : GV} {ρ : Go.Shelf.Ren} (L : Go.Proofs.SlLaysE0.n41 P ρ) (hgo : Goes P (ρ.f 41)) (sz bytes : Nat) (h1 : ((P.info? (ρ.t 23)).bind (·.zero)).isSome = true) (h2 : (P.info? (ρ.t 23)).map (·.size) = some sz) (h3 : (P.info? (ρ.t 23)).map (·.bytes) = some bytes)
    (h4 : ((P.info? (ρ.t 23)).bind (·.zero)).map (·.cells.size) = some sz) (hsz : 0 < sz) (hb : bytes ≤ 128) (z23 : ∀ w, (Go.sizeOf (ρ.t 23)).run P w = .ok sz w) (rows : List (List D)) (hrow : ∀ r, r ∈ rows → r.length = sz) (hN : rows.length ≤ 1099511627776) :
    Valid P GG (ρ.f 41) [.d (.slc sz rows)] (.own 0 sz rows) [none] := by
  refine lib_new [.slc sz rows] hgo fun w Fz args hG hFz hl hA => ?_
  have h0 := hA 0 _ rfl
  obtain ⟨i0, hi0⟩ : ∃ i0, P.info? (ρ.t 23) = some i0 := by
    cases h : P.info? (ρ.t 23) with
    | none => rw [h] at h2; cases h2
    | some i => exact ⟨i, rfl⟩
  obtain ⟨z, hz0⟩ : ∃ z, i0.zero = some z := by rw [hi0] at h1; exact Option.isSome_iff_exists.1 h1
  have hz1 : i0.size = sz := by rw [hi0] at h2; exact Option.some.inj h2
  have hz2 : i0.bytes = bytes := by rw [hi0] at h3; exact Option.some.inj h3
  have hzs : z.cells.size = sz := by rw [hi0] at h4; simp only [Option.bind_some, hz0, Option.map_some] at h4; exact Option.some.inj h4
  have fin : ∀ (v : Value) (xs : List Value), args = #[v] → (∀ (m : Nat) d, rows.flatten[m]? = some d → ∃ u, xs[m]? = some u ∧ Shr w Fz u d) →
      (Calls P (ρ.f 41) #[v] w fun e w' => ∃ v', e = .returned v' ∧ w'.ownsRow w.heap.size (ρ.t 23) sz v' rows.length xs ∧ w'.os = w.os ∧ w'.output = w.output ∧ w.heap.size ≤ w'.heap.size ∧ ∀ b, b < w.heap.size → w'.heap[b]? = w.heap[b]?) →
      Calls P (ρ.f 41) args w fun e w' => ∃ v Fz' S, e = .returned v ∧ (w'.os = w.os ∧ w'.output = w.output) ∧ w.heap.size ≤ w'.heap.size ∧ (∀ b, b < w.heap.size → w'.heap[b]? = w.heap[b]?) ∧
        (∀ b o, Fz b o → Fz' b o) ∧ (∀ b o, Fz' b o → (Fz b o ∨ w.heap.size ≤ b) ∧ b < w'.heap.size) ∧ RC w' Fz' (.own 0 sz rows) v S ∧ ∀ x y, S x y → w.heap.size ≤ x ∧ ¬ Fz' x y ∧ x < w'.heap.size := by
    intro v xs hv hxs hc
    subst hv
    refine hc.mono ?_
    rintro e w' ⟨v', rfl, hown, h1, h2, h3, h4⟩
    have hmono : ∀ u d, Shr w Fz u d → Shr w' Fz u d := fun u d h => h.mono (fun b o hf => by
      unfold World.cell?
      rw [show (at_ b o).block = b from rfl, h4 b (hFz b o hf)]) (fun _ _ h => h)
    obtain ⟨S, hS, hSb⟩ := own_rowG (Fz := Fz) hown hrow (fun m d hm => let ⟨u, a, b⟩ := hxs m d hm; ⟨u, a, hmono u d b⟩)
    exact ⟨v', Fz, S, rfl, ⟨h1, h2⟩, h3, h4, fun _ _ h => h, fun b o h => ⟨.inl h, Nat.lt_of_lt_of_le (hFz b o h) h3⟩, .own 0 sz _ _ _ hS, fun x y h => ⟨(hSb x y h).1, fun hf => by have := hFz x y hf; have := (hSb x y h).1; omega, (hSb x y h).2⟩⟩
  have harg : ∀ v, args.getD 0 Go.undef = v → args = #[v] := fun v hv => args_eq (l := [v]) hl fun i u hu => by
    match i, hu with
    | 0, hu => cases hu; exact hv
  rcases shr_slc_inv h0 with ⟨ad, cap, hv, hrows⟩ | ⟨b, off, cap, vs, hv, hcap, hc⟩
  · subst hrows
    refine fin _ [] (harg _ hv) (fun m d hm => by simp at hm) ?_
    cases ad with
    | none =>
      refine (AnyE.slices_Clone_nil L 0 cap w).mono ?_
      rintro e w' ⟨rfl, rfl⟩
      exact ⟨_, rfl, ⟨by simp, .inl ⟨rfl, rfl⟩⟩, rfl, rfl, Nat.le_refl _, fun _ _ => rfl⟩
    | some ad =>
      refine (Go.Proofs.clone_zero L i0 z sz bytes hi0 hz0 hz1 hz2 hzs hsz z23 ad cap w).mono ?_
      rintro e w' ⟨v', rfl, hrow, hb⟩
      exact ⟨v', rfl, hrow, hb.os, hb.output, hb.size, fun b h => hb.block b h⟩
  · have hfl := flat_len hrow
    have hmul : rows.length * bytes ≤ 140737488355328 := Nat.le_trans (Nat.mul_le_mul hN hb) (by decide)
    refine fin _ ((List.range rows.flatten.length).map vs) (harg _ hv) (fun m d hm => ⟨vs m, ?_, (hc m d hm).2⟩) ?_
    · rw [List.getElem?_map, List.getElem?_range (mem_len hm)]; rfl
    refine (AnyE.slices_Clone L i0 z sz bytes hi0 hz0 hz1 hz2 hzs hsz z23 b off rows.length cap ((List.range rows.flatten.length).map vs) w (by simp [hfl]) (by have : maxLen = 9223372036854775807 := rfl; omega) (by omega) (fun j u hj => ?_) (fun u hu => ?_)).mono ?_
    · rw [List.getElem?_map] at hj
      cases hr : (List.range rows.flatten.length)[j]? with
      | none => rw [hr] at hj; cases hj
      | some q =>
        rw [hr] at hj
        cases hj
        obtain ⟨hq, rfl⟩ := List.getElem?_eq_some_iff.1 hr
        simp only [List.getElem_range] at *
        exact (hc j _ (List.getElem?_eq_getElem (by simpa using hq))).1
    · obtain ⟨q, hq, rfl⟩ := List.mem_map.1 hu
      have hq' := List.mem_range.1 hq
      exact (hc q _ (List.getElem?_eq_getElem hq')).2.one
    · rintro e w' ⟨v', rfl, hrow, _, hb⟩
      exact ⟨v', rfl, hrow, hb.os, hb.output, hb.size, fun b h => hb.block b h⟩
end Go.Proofs.YtbjmakmahooaiaaGreat.Ab

set_option linter.unusedVariables false
namespace Go.Proofs.YtbjmakmahooaiaaGreat.Ab
/-! Codes are reckoned where they are used: slots that live, modes of calls. What is reckoned here only proposes; the kernel compares. Sets of slots are numbers (bits). -/
def bitM (x m : Nat) : Nat := (m >>> x) % 2
def setM (x m : Nat) : Nat := match bitM x m with | 0 => m + (1 <<< x) | _ => m
def delM (x m : Nat) : Nat := match bitM x m with | 0 => m | _ => m - (1 <<< x)
def bitsM : Nat → Nat → Nat → List Nat
  | 0, _, _ => []
  | n + 1, i, m => match m with | 0 => [] | _ => match m % 2 with | 0 => bitsM n (i + 1) (m / 2) | _ => i :: bitsM n (i + 1) (m / 2)
def uniM : List Nat → List Nat × Nat → List Nat × Nat
  | [], p => p
  | x :: a, p => match uniM a p with | (l, m) => match bitM x m with | 0 => (x :: l, m + (1 <<< x)) | _ => (l, m)
def preM (pres : List (List Nat)) : List Edge → List Nat × Nat
  | [] => ([], 0)
  | e :: r => match alw e with | true => uniM (e.on :: pres.getD e.on []) (preM pres r) | false => preM pres r
def cOpsM (P : Program) (nt : Nat × List Nat) (ops : Array Oper) (draw : Bool) : List (List Nat) → List Oper → Option (List AOper)
  | _, [] => some []
  | pres, o :: r => (cDst nt [] o.dst).bind fun d => (cOp P [] o.type o.op).bind fun p => (cGuard ops [] o.guard).bind fun g =>
      let af := match draw with | true => (preM pres o.after.toList).1 | false => []
      (cOpsM P nt ops draw (pres ++ [af]) r).bind fun rs => some ({ dst := d, op := p, guard := g, after := af } :: rs)
def compM (P : Program) (nt : Nat × List Nat) : Code → Option ACode
  | .skip => some .skip
  | .label _ => some .skip
  | .region _ ops draw => (cOpsM P nt ops draw [] ops.toList).map (.reg · draw)
  | .seq a b => (compM P nt a).bind fun a => (compM P nt b).bind fun b => some (.seq a b)
  | .cond c a b => (cOpd P [] 0 c).bind fun c => (compM P nt a).bind fun a => (compM P nt b).bind fun b => some (.cond c a b)
  | .block id c => (compM P nt c).bind fun c => some (.block id c)
  | .loop c => (compM P nt c).bind fun c => some (.loop [] c)
  | .exit id => some (.exit id)
  | .ret => some .ret
  | _ => none
def Opd.sl : Opd → Nat → Nat
  | .loc t, m => setM t m
  | .var t, m => setM t m
  | _, m => m
def oSl : Option Opd → Nat → Nat
  | some x, m => x.sl m
  | none, m => m
def xsSl : List Opd → Nat → Nat
  | [], m => m
  | x :: r, m => x.sl (xsSl r m)
def psSl : List (Nat × Opd) → Nat → Nat
  | [], m => m
  | p :: r, m => p.2.sl (psSl r m)
def bsSl : List (Nat × Nat × Opd) → Nat → Nat
  | [], m => m
  | p :: r, m => p.2.2.sl (bsSl r m)
def AOp.sl : AOp → Nat → Nat
  | .mv x, m | .split x, m | .box x, m | .load _ _ x, m | .fld _ x, m | .fieldV _ _ _ x, m | .un _ x, m | .conv _ x, m | .s2b x, m | .b2s x, m | .len _ x, m | .ext x _, m | .nchk x, m | .mkI _ x, m | .mark x, m => x.sl m
  | .store _ x y, m | .idxA _ x y, m | .idxS x y, m | .bin _ _ x y, m | .mm _ x y, m | .mkslice _ _ _ _ x y, m | .app _ _ x y, m | .appS x y, m => x.sl (y.sl m)
  | .pick x y z, m => x.sl (y.sl (z.sl m))
  | .lit _ _ _ _ ps, m => psSl ps m
  | .build _ ps, m => bsSl ps m
  | .sliceS x a b, m | .sliceA _ x a b, m => x.sl (oSl a (oSl b m))
  | .clo _ xs, m => xsSl xs m
  | .call f xs _, m => f.sl (xsSl xs m)
  | .alloc _, m | .bad, m => m
def gSl : Option (Opd × Bool) → Nat → Nat
  | some p, m => p.1.sl m
  | none, m => m
def opsLive : List AOper → Nat → Nat
  | [], L => L
  | o :: r, L => let L := opsLive r L
    let L := match o.dst with | .none => L | .loc t => delM t L | .var t => delM t L
    o.op.sl (gSl o.guard L)
def lookM (id : Nat) : List (Nat × Nat) → Nat
  | [] => 0
  | p :: r => match (p.1 - id) + (id - p.1) with | 0 => p.2 | _ => lookM id r
def orM : Nat → Nat → Nat := fun a b => a ||| b
def ACode.regs : ACode → Nat → Nat
  | .reg ops _, L => orM (opsLive ops 0) L
  | .seq a b, L => a.regs (b.regs L)
  | .cond c a b, L => c.sl (a.regs (b.regs L))
  | .block _ c, L => c.regs L
  | .loop _ c, L => c.regs L
  | _, L => L
def gdsO : List AOper → Nat → Nat
  | [], L => L
  | o :: r, L => gSl o.guard (gdsO r L)
def ACode.gds : ACode → Nat → Nat
  | .reg ops _, L => gdsO ops L
  | .seq a b, L => a.gds (b.gds L)
  | .cond _ a b, L => a.gds (b.gds L)
  | .block _ c, L => c.gds L
  | .loop _ c, L => c.gds L
  | _, L => L
def Opd.col (vm : Nat) : Opd → Opd
  | .loc t => match bitM t vm with | 0 => .loc t | _ => .var t
  | x => x
def oCol (vm : Nat) : Option Opd → Option Opd
  | some x => some (x.col vm)
  | none => none
def xsCol (vm : Nat) : List Opd → List Opd
  | [] => []
  | x :: r => x.col vm :: xsCol vm r
def modeOf : List (Nat × List Mode) → Nat → List Opd → List Mode
  | [], _, xs => xs.map fun _ => .borrow
  | p :: r, f, xs => match (p.1 - f) + (f - p.1) with | 0 => p.2 | _ => modeOf r f xs
def AOp.col (M : List (Nat × List Mode)) (vm : Nat) : AOp → AOp
  | .mv x => .mv (x.col vm)
  | .split x => .split (x.col vm)
  | .box x => .box (x.col vm)
  | .load a n x => .load a n (x.col vm)
  | .fld n x => .fld n (x.col vm)
  | .fieldV a b n x => .fieldV a b n (x.col vm)
  | .un o x => .un o (x.col vm)
  | .conv k x => .conv k (x.col vm)
  | .s2b x => .s2b (x.col vm)
  | .b2s x => .b2s (x.col vm)
  | .len s x => .len s (x.col vm)
  | .ext x i => .ext (x.col vm) i
  | .nchk x => .nchk (x.col vm)
  | .mkI t x => .mkI t (x.col vm)
  | .mark x => .mark (x.col vm)
  | .store n x y => .store n (x.col vm) (y.col vm)
  | .idxA n x y => .idxA n (x.col vm) (y.col vm)
  | .idxS x y => .idxS (x.col vm) (y.col vm)
  | .bin t o x y => .bin t o (x.col vm) (y.col vm)
  | .mm b x y => .mm b (x.col vm) (y.col vm)
  | .mkslice a b c z x y => .mkslice a b c z (x.col vm) (y.col vm)
  | .app a b x y => .app a b (x.col vm) (y.col vm)
  | .appS x y => .appS (x.col vm) (y.col vm)
  | .pick x y z => .pick (x.col vm) (y.col vm) (z.col vm)
  | .lit a b c z ps => .lit a b c z (ps.map fun p => (p.1, p.2.col vm))
  | .build z ps => .build z (ps.map fun p => (p.1, p.2.1, p.2.2.col vm))
  | .sliceS x a b => .sliceS (x.col vm) (oCol vm a) (oCol vm b)
  | .sliceA n x a b => .sliceA n (x.col vm) (oCol vm a) (oCol vm b)
  | .clo f xs => .clo f (xsCol vm xs)
  | .call f xs _ => .call (f.col vm) (xsCol vm xs) (match f with | .fn i => modeOf M i xs | _ => xs.map fun _ => .borrow)
  | .alloc c => .alloc c
  | .bad => .bad
def AOper.col (M : List (Nat × List Mode)) (vm gs : Nat) (o : AOper) : AOper :=
  { dst := match o.dst with | .loc t => (match bitM t vm with | 0 => .loc t | _ => .var t) | d => d
    op := match o.op with
      | .mv x => (match o.dst with | .loc t => (match bitM t gs with | 0 => .mv (x.col vm) | _ => .split (x.col vm)) | _ => .mv (x.col vm))
      | p => p.col M vm
    guard := match o.guard with | some p => some (p.1.col vm, p.2) | none => none
    after := o.after }
def ACode.col (M : List (Nat × List Mode)) (vm gs : Nat) : ACode → ACode
  | .reg ops d => .reg (ops.map (AOper.col M vm gs)) d
  | .seq a b => .seq (a.col M vm gs) (b.col M vm gs)
  | .cond c a b => .cond (c.col vm) (a.col M vm gs) (b.col M vm gs)
  | .block id c => .block id (c.col M vm gs)
  | .loop l c => .loop l (c.col M vm gs)
  | c => c
def ACode.hasLoop : ACode → Bool
  | .seq a b => match a.hasLoop with | true => true | false => b.hasLoop
  | .cond _ a b => match a.hasLoop with | true => true | false => b.hasLoop
  | .block _ c => c.hasLoop
  | .loop _ _ => true
  | _ => false
inductive Sk where
  | nop | ret
  | reg (g k : Nat)
  | seq (a b : Sk)
  | cond (m : Nat) (a b : Sk)
  | block (id : Nat) (c : Sk)
  | loop (h : Nat) (c : Sk)
  | exit (id : Nat)
def killO : List AOper → Nat → Nat
  | [], m => m
  | o :: r, m => match o.dst with | .none => killO r m | .loc _ => killO r m | .var t => setM t (killO r m)
def varO (vm : Nat) (m : Nat) : Nat := m &&& vm
def ACode.sk (vm : Nat) : ACode → Sk
  | .skip => .nop
  | .ret => .ret
  | .reg ops _ => .reg (varO vm (opsLive ops 0)) (killO ops 0)
  | .seq a b => .seq (a.sk vm) (b.sk vm)
  | .cond c a b => .cond (c.sl 0) (a.sk vm) (b.sk vm)
  | .block id c => .block id (c.sk vm)
  | .loop _ c => .loop 0 (c.sk vm)
  | .exit id => .exit id
def lpN (h h' : Nat) (c : Sk) (m : Nat) : Nat × Sk × Nat := match h' - h with | 0 => (h, .loop h c, m) | _ => (h', .loop h' c, m + 1)
def Sk.pass (ret : Nat) : Sk → List (Nat × Nat) → Nat → Nat × Sk × Nat
  | .nop, _, L => (L, .nop, 0)
  | .ret, _, _ => (ret, .ret, 0)
  | .reg g k, _, L => (orM g (L - (L &&& k)), .reg g k, 0)
  | .seq a b, blk, L => match b.pass ret blk L with | (L, b', m) => match a.pass ret blk L with | (L, a', n) => (L, .seq a' b', m + n)
  | .cond x a b, blk, L => match b.pass ret blk L with | (Lb, b', m) => match a.pass ret blk L with | (La, a', n) => (orM x (orM La Lb), .cond x a' b', m + n)
  | .block id c, blk, L => match c.pass ret ((id, L) :: blk) L with | (L, c', m) => (L, .block id c', m)
  | .loop h c, blk, _ => match c.pass ret blk h with | (h', c', m) => lpN h (orM h' h) c' m
  | .exit id, blk, _ => (lookM id blk, .exit id, 0)
def Sk.rounds (ret : Nat) : Nat → Sk → Sk
  | 0, s => s
  | n + 1, s => match s.pass ret [] ret with | (_, s', m) => match m with | 0 => s' | _ => Sk.rounds ret n s'
def ACode.fill (nt : Nat) : ACode → Sk → ACode
  | .seq a b, .seq x y => .seq (a.fill nt x) (b.fill nt y)
  | .cond c a b, .cond _ x y => .cond c (a.fill nt x) (b.fill nt y)
  | .block id c, .block _ x => .block id (c.fill nt x)
  | .loop _ c, .loop h x => .loop (bitsM nt 0 h) (c.fill nt x)
  | c, _ => c
def outSl : Nat → List (Option Mode) → Nat → Nat
  | _, [], m => m
  | n, none :: r, m => outSl (n + 1) r m
  | n, some _ :: r, m => setM n (outSl (n + 1) r m)
def resSl : List ResultVar → Nat → Nat
  | [], m => m
  | .tmp t :: r, m => setM t (resSl r m)
  | .cell a _ :: r, m => setM a (resSl r m)
def rsGo (P : Program) : List ResultVar → List Mode → List (Mode × Nat × Option (Bool × Nat))
  | [], _ => []
  | .tmp t :: r, md => (md.headD .give, t, none) :: rsGo P r md.tail
  | .cell a t :: r, md => (md.headD .give, a, isAggT P t) :: rsGo P r md.tail
abbrev Cfg := List (Nat × List Mode × List (Option Mode) × List Mode)
def cfOf : Cfg → Nat → List (Option Mode) × List Mode
  | [], _ => ([], [])
  | p :: r, f => match (p.1 - f) + (f - p.1) with | 0 => p.2.2 | _ => cfOf r f
def omOf : List (Option Mode) → Array TypeId → List (Option Mode)
  | [], ps => ps.toList.map fun _ => none
  | l, _ => l
def reck1 (P : Program) (CF : Cfg) (f : FuncId) (fn : Func) : List (Option Mode) × List (Mode × Nat × Option (Bool × Nat)) :=
  match cfOf CF f with | (o, m) => (omOf o fn.params, rsGo P fn.results.toList m)
def reck2 (P : Program) (om : List (Option Mode)) (fn : Func) : ACode := (compM P (fn.ntmps, pinOf 0 om) (fn.body.getD .skip)).getD .skip
def reck3 (x : ACode) (np nt : Nat) (rv : List ResultVar) : Nat × Nat × List Nat := let m := orM ((1 <<< np) - 1) (resSl rv (x.regs 0)); (m, x.gds 0, bitsM nt 0 m)
def reck4 (M : List (Nat × List Mode)) (x : ACode) (vm gs : Nat) : ACode := x.col M vm gs
def reck5 (y : ACode) (vm nt : Nat) (om : List (Option Mode)) (rv : List ResultVar) : Option Sk := match y.hasLoop with | true => some ((y.sk vm).rounds (outSl 0 om (resSl rv 0)) 12) | false => none
def reck6 (nt : Nat) (y : ACode) (ls : Option Sk) : ACode := match ls with | none => y | some s => y.fill nt s
def okFn (P : Program) (vl : List Nat) (om : List (Option Mode)) (rs : List (Mode × Nat × Option (Bool × Nat))) (fn : Func) (nc nr : Nat) : Bool :=
  fn.body.isSome && !(fn.name == "runtime.NumGoroutine") && resOk P fn.results.toList rs && (List.range nc).all vl.contains && decide (nc ≤ fn.ntmps ∧ om.length ≤ nc ∧ nr = rs.length)
theorem cvM {P : Program} {G : GV} {f : FuncId} {fn : Func} {om : List (Option Mode)} {vl : List Nat} {rs : List (Mode × Nat × Option (Bool × Nat))} {c : ACode} {cs : List C} {r : C} {os : List (Option C)} (hf : P.funcs[f]? = some fn) (rcs : List C)
    (hk : okFn P vl om rs fn cs.length rcs.length = true) (hcomp : comp P (fn.ntmps, pinOf 0 om) vl (fn.body.getD .skip) = some c.erase) (hret : retOf rcs = r)
    (hW : W P vl (fn.ntmps, pinOf 0 om) (Valid P G) c (entry cs) (Fin (Valid P G) rs om rcs os) (fun _ _ => False) (Fin (Valid P G) rs om rcs os)) : Valid P G f cs r os := by
  unfold okFn at hk
  simp only [Bool.and_eq_true, Bool.not_eq_true'] at hk
  obtain ⟨⟨⟨⟨h1, h2⟩, h3⟩, h4⟩, h5⟩ := hk
  exact fn_valid_n cs.length rcs.length vl c rs om rcs hf h1 h2 h3 hcomp h4 h5 (by simp) hret hW
end Go.Proofs.YtbjmakmahooaiaaGreat.Ab
