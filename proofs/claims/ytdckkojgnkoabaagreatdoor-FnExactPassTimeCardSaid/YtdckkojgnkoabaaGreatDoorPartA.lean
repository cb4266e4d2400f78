/-
  A part of a proof about the given program; what is proved is said where each theorem stands.
-/
import Derived.Test.YtdckkojgnkoabaaGreatDoorFrameA
import Derived.Test.YtdckkojgnkoabaaGreatDoorFrameB
import Derived.Test.YtdckkojgnkoabaaGreatDoorFrameC
import Derived.Test.YtdckkojgnkoabaaGreatDoorFrameD
import Derived.Test.YtdckkojgnkoabaaGreatDoorFrameE
import Derived.Test.YtdckkojgnkoabaaGreatDoorHead
import Derived.Test.YtdckkojgnkoabaaGreatDoorShelf
namespace Go.Proofs
end Go.Proofs
set_option linter.unusedSimpArgs false
set_option linter.unusedVariables false
set_option maxRecDepth 100000
set_option maxHeartbeats 2000000
namespace Go.Proofs.YtdckkojgnkoabaaGreatDoor.Ab
open Go.Proofs
variable {GG : GV}
structure Hid (q : Prop) : Type where
  o : q
theorem Y2 {p0 p1 : Prop} (x0 : p0) (x1 : p1) : p0 ∧ p1 := ⟨x0, x1⟩
theorem Y3 {p0 p1 p2 : Prop} (x0 : p0) (x1 : p1) (x2 : p2) : p0 ∧ p1 ∧ p2 := ⟨x0, x1, x2⟩
theorem Y4 {p0 p1 p2 p3 : Prop} (x0 : p0) (x1 : p1) (x2 : p2) (x3 : p3) : p0 ∧ p1 ∧ p2 ∧ p3 := ⟨x0, x1, x2, x3⟩
theorem Y5 {p0 p1 p2 p3 p4 : Prop} (x0 : p0) (x1 : p1) (x2 : p2) (x3 : p3) (x4 : p4) : p0 ∧ p1 ∧ p2 ∧ p3 ∧ p4 := ⟨x0, x1, x2, x3, x4⟩
theorem Y6 {p0 p1 p2 p3 p4 p5 : Prop} (x0 : p0) (x1 : p1) (x2 : p2) (x3 : p3) (x4 : p4) (x5 : p5) : p0 ∧ p1 ∧ p2 ∧ p3 ∧ p4 ∧ p5 := ⟨x0, x1, x2, x3, x4, x5⟩
theorem Y7 {p0 p1 p2 p3 p4 p5 p6 : Prop} (x0 : p0) (x1 : p1) (x2 : p2) (x3 : p3) (x4 : p4) (x5 : p5) (x6 : p6) : p0 ∧ p1 ∧ p2 ∧ p3 ∧ p4 ∧ p5 ∧ p6 := ⟨x0, x1, x2, x3, x4, x5, x6⟩
theorem Y8 {p0 p1 p2 p3 p4 p5 p6 p7 : Prop} (x0 : p0) (x1 : p1) (x2 : p2) (x3 : p3) (x4 : p4) (x5 : p5) (x6 : p6) (x7 : p7) : p0 ∧ p1 ∧ p2 ∧ p3 ∧ p4 ∧ p5 ∧ p6 ∧ p7 := ⟨x0, x1, x2, x3, x4, x5, x6, x7⟩
theorem Y9 {p0 p1 p2 p3 p4 p5 p6 p7 p8 : Prop} (x0 : p0) (x1 : p1) (x2 : p2) (x3 : p3) (x4 : p4) (x5 : p5) (x6 : p6) (x7 : p7) (x8 : p8) : p0 ∧ p1 ∧ p2 ∧ p3 ∧ p4 ∧ p5 ∧ p6 ∧ p7 ∧ p8 := ⟨x0, x1, x2, x3, x4, x5, x6, x7, x8⟩
theorem Z1 {p0 : Prop} (x0 : p0) : p0 ∧ True := ⟨x0, trivial⟩
theorem Z2 {p0 p1 : Prop} (x0 : p0) (x1 : p1) : p0 ∧ p1 ∧ True := ⟨x0, x1, trivial⟩
theorem Z3 {p0 p1 p2 : Prop} (x0 : p0) (x1 : p1) (x2 : p2) : p0 ∧ p1 ∧ p2 ∧ True := ⟨x0, x1, x2, trivial⟩
theorem Z4 {p0 p1 p2 p3 : Prop} (x0 : p0) (x1 : p1) (x2 : p2) (x3 : p3) : p0 ∧ p1 ∧ p2 ∧ p3 ∧ True := ⟨x0, x1, x2, x3, trivial⟩
theorem Z5 {p0 p1 p2 p3 p4 : Prop} (x0 : p0) (x1 : p1) (x2 : p2) (x3 : p3) (x4 : p4) : p0 ∧ p1 ∧ p2 ∧ p3 ∧ p4 ∧ True := ⟨x0, x1, x2, x3, x4, trivial⟩
theorem Z6 {p0 p1 p2 p3 p4 p5 : Prop} (x0 : p0) (x1 : p1) (x2 : p2) (x3 : p3) (x4 : p4) (x5 : p5) : p0 ∧ p1 ∧ p2 ∧ p3 ∧ p4 ∧ p5 ∧ True := ⟨x0, x1, x2, x3, x4, x5, trivial⟩
theorem Z7 {p0 p1 p2 p3 p4 p5 p6 : Prop} (x0 : p0) (x1 : p1) (x2 : p2) (x3 : p3) (x4 : p4) (x5 : p5) (x6 : p6) : p0 ∧ p1 ∧ p2 ∧ p3 ∧ p4 ∧ p5 ∧ p6 ∧ True := ⟨x0, x1, x2, x3, x4, x5, x6, trivial⟩
theorem bq {a b : Bool} (h : a = b := by first | omega | (exact decide_eq_false (by omega)) | (exact decide_eq_true (by omega)) | (exact (decide_eq_true (by omega)).symm) | (exact (decide_eq_false (by omega)).symm) | (exact decide_eq_decide.2 (by omega)) | (simp only [← decide_not]; exact decide_eq_decide.2 (by omega)) | (simp [*]; done) | (simp [*]; omega) | (simp_all; done) | (simp_all; omega) | (rw [Bool.eq_iff_iff]; simp at *; omega)) : a = b := h
abbrev RS (V : FuncId → List C → C → List (Option C) → Prop) (ops : List AOper) (st st' : St) : Prop := ∀ K : St → Prop, K st' → regS V st.nx 0 ops st K
abbrev RD (V : FuncId → List C → C → List (Option C) → Prop) (ops : List AOper) (st st' : St) : Prop := ∀ K : St → Prop, K st' → regD V st.nx 0 ops [] true st K
abbrev RB (V : FuncId → List C → C → List (Option C) → Prop) (ops : List AOper) (st : St) (r : Nat) (b : Bool) : Prop := ∀ K : St → Prop, (∀ t tm, t = b → K ⟨tm, put st.vars r (.d (.bool t)), st.objs, st.nx⟩) → regS V st.nx 0 ops st K
abbrev RE (V : FuncId → List C → C → List (Option C) → Prop) (ops : List AOper) (st : St) (r : Nat) (b : Bool) : Prop := ∀ K : St → Prop, (∀ t tm, t = b → K ⟨tm, put st.vars r (.d (.bool t)), st.objs, st.nx⟩) → regD V st.nx 0 ops [] true st K
section
variable {P : Program} {vl : List Nat} {nt : Nat × List Nat} {V : FuncId → List C → C → List (Option C) → Prop} {ops : List AOper} {st st' : St} {Kn : St → Prop} {Ke : Nat → St → Prop} {Kr : St → Prop} {a b' c' : ACode} {E L p q0 q1 q2 q3 q4 : Prop}
theorem u_1 (hn : W P vl nt V a ⟨[], st'.vars, st'.objs, st.nx + 64 * ops.length⟩ Kn Ke Kr) (h : RS V ops st st' := by intro K hK; simp; repeat' (first | with_reducible exact hK | (with_reducible refine goL_split (fun _ => ?_) (fun _ => ?_) <;> simp) | with_reducible refine And.intro ?_ ?_ | with_reducible exact okay_rfl rfl | with_reducible assumption | omega)) : W P vl nt V (.seq (.reg ops false) a) st Kn Ke Kr := W_seq (W_regS (h) hn)
theorem u_2 (hn : W P vl nt V a ⟨[], st'.vars, st'.objs, st.nx + 64 * ops.length⟩ (fun s => W P vl nt V b' s Kn Ke Kr) Ke Kr) (h : RS V ops st st' := by intro K hK; simp; repeat' (first | with_reducible exact hK | (with_reducible refine goL_split (fun _ => ?_) (fun _ => ?_) <;> simp) | with_reducible refine And.intro ?_ ?_ | with_reducible exact okay_rfl rfl | with_reducible assumption | omega)) : W P vl nt V (.seq (.seq (.reg ops false) a) b') st Kn Ke Kr := W_seq (W_seq (W_regS (h) hn))
theorem u_3 (hn : Kn ⟨[], st'.vars, st'.objs, st.nx + 64 * ops.length⟩) (h : RS V ops st st' := by intro K hK; simp; repeat' (first | with_reducible exact hK | (with_reducible refine goL_split (fun _ => ?_) (fun _ => ?_) <;> simp) | with_reducible refine And.intro ?_ ?_ | with_reducible exact okay_rfl rfl | with_reducible assumption | omega)) : W P vl nt V (.reg ops false) st Kn Ke Kr := W_regS (h) hn
theorem u_4 (h : p := by refine W_ret ?_; simp [Fin, this]; all_goals omega) : p := h
theorem u_5 (e : E) (hn : Kn ⟨[], st'.vars, st'.objs, st.nx + 64 * ops.length⟩) (h : Hid E → RD V ops st st' := by intro e K hK; simp [e.o]; repeat' (first | with_reducible exact hK | (with_reducible refine goL_split (fun _ => ?_) (fun _ => ?_) <;> simp [e.o]) | with_reducible refine And.intro ?_ ?_ | with_reducible exact okay_rfl rfl | with_reducible assumption | omega)) : W P vl nt V (.reg ops true) st Kn Ke Kr := W_regD (h ⟨e⟩) hn
theorem u_6 (hn : W P vl nt V a ⟨[], st'.vars, st'.objs, st.nx + 64 * ops.length⟩ Kn Ke Kr) (h : RS V ops st st' := by intro K hK; simp [limit, mkA]; repeat' (first | with_reducible exact hK | (with_reducible refine goL_split (fun _ => ?_) (fun _ => ?_) <;> simp [limit, mkA]) | with_reducible refine And.intro ?_ ?_ | with_reducible exact okay_rfl rfl | with_reducible assumption | omega)) : W P vl nt V (.seq (.reg ops false) a) st Kn Ke Kr := W_seq (W_regS (h) hn)
theorem u_7 (e : E) (hn : Kn ⟨[], st'.vars, st'.objs, st.nx + 64 * ops.length⟩) (h : Hid E → RS V ops st st' := by intro e K hK; simp [e.o]; repeat' (first | with_reducible exact hK | (with_reducible refine goL_split (fun _ => ?_) (fun _ => ?_) <;> simp [e.o]) | with_reducible refine And.intro ?_ ?_ | with_reducible exact okay_rfl rfl | with_reducible assumption | omega)) : W P vl nt V (.reg ops false) st Kn Ke Kr := W_regS (h ⟨e⟩) hn
theorem u_8 (h : p := by refine W_ret ?_; simp [Fin]; all_goals omega) : p := h
theorem u_9 (r : Nat) (b : Bool) (hn : W P vl nt V a ⟨[], put st.vars r (.d (.bool b)), st.objs, st.nx + 64 * ops.length⟩ Kn Ke Kr) (h : RB V ops st r b := by intro K hK; simp; repeat' (first | exact hK _ _ (by clear hK; exact bq) | (with_reducible refine goL_split (fun _ => ?_) (fun _ => ?_) <;> simp) | with_reducible refine And.intro ?_ ?_ | with_reducible exact okay_rfl rfl | with_reducible assumption | omega)) : W P vl nt V (.seq (.reg ops false) a) st Kn Ke Kr := W_seq (W_regB r b (h) hn)
theorem u_10 (e : E) (h : Hid E → p := by intro e; refine W_ret ?_; simp [Fin, e.o]; all_goals omega) : p := h ⟨e⟩
theorem u_11 (e : E) (k : L) (hn : Kn ⟨[], st'.vars, st'.objs, st.nx + 64 * ops.length⟩) (h : Hid E → Hid L → RS V ops st st' := by intro e k K hK; simp [e.o]; repeat' (first | with_reducible exact hK | ((with_reducible first | refine callQ k.o.1 ?_ | refine callQ k.o.2.1 ?_ | refine callQ k.o.2.2.1 ?_ | refine callQ k.o.2.2.2.1 ?_ | refine callQ k.o.2.2.2.2.1 ?_ | refine callQ k.o.2.2.2.2.2.1 ?_ | refine callQ k.o.2.2.2.2.2.2.1 ?_ | refine callQ k.o.2.2.2.2.2.2.2.1 ?_); simp [e.o]) | (with_reducible refine goL_split (fun _ => ?_) (fun _ => ?_) <;> simp [e.o]) | with_reducible refine And.intro ?_ ?_ | with_reducible exact okay_rfl rfl | with_reducible assumption | omega)) : W P vl nt V (.reg ops false) st Kn Ke Kr := W_regS (h ⟨e⟩ ⟨k⟩) hn
theorem u_12 (e : E) (k : L) (hn : Kn ⟨[], st'.vars, st'.objs, st.nx + 64 * ops.length⟩) (h : Hid E → Hid L → RD V ops st st' := by intro e k K hK; simp [e.o]; repeat' (first | with_reducible exact hK | ((with_reducible first | refine callQ k.o.1 ?_ | refine callQ k.o.2.1 ?_ | refine callQ k.o.2.2.1 ?_ | refine callQ k.o.2.2.2.1 ?_ | refine callQ k.o.2.2.2.2.1 ?_ | refine callQ k.o.2.2.2.2.2.1 ?_ | refine callQ k.o.2.2.2.2.2.2.1 ?_ | refine callQ k.o.2.2.2.2.2.2.2.1 ?_); simp [e.o]) | (with_reducible refine goL_split (fun _ => ?_) (fun _ => ?_) <;> simp [e.o]) | with_reducible refine And.intro ?_ ?_ | with_reducible exact okay_rfl rfl | with_reducible assumption | omega)) : W P vl nt V (.reg ops true) st Kn Ke Kr := W_regD (h ⟨e⟩ ⟨k⟩) hn
theorem u_13 (e : E) (hn : W P vl nt V a ⟨[], st'.vars, st'.objs, st.nx + 64 * ops.length⟩ Kn Ke Kr) (h : Hid E → RS V ops st st' := by intro e K hK; simp [e.o]; repeat' (first | with_reducible exact hK | (with_reducible refine goL_split (fun _ => ?_) (fun _ => ?_) <;> simp [e.o]) | with_reducible refine And.intro ?_ ?_ | with_reducible exact okay_rfl rfl | with_reducible assumption | omega)) : W P vl nt V (.seq (.reg ops false) a) st Kn Ke Kr := W_seq (W_regS (h ⟨e⟩) hn)
theorem u_14 (k : L) (hn : W P vl nt V a ⟨[], st'.vars, st'.objs, st.nx + 64 * ops.length⟩ Kn Ke Kr) (h : Hid L → RS V ops st st' := by intro k K hK; simp; repeat' (first | with_reducible exact hK | ((with_reducible first | refine callQ k.o.1 ?_ | refine callQ k.o.2.1 ?_ | refine callQ k.o.2.2.1 ?_ | refine callQ k.o.2.2.2.1 ?_ | refine callQ k.o.2.2.2.2.1 ?_ | refine callQ k.o.2.2.2.2.2.1 ?_ | refine callQ k.o.2.2.2.2.2.2.1 ?_ | refine callQ k.o.2.2.2.2.2.2.2.1 ?_); simp) | (with_reducible refine goL_split (fun _ => ?_) (fun _ => ?_) <;> simp) | with_reducible refine And.intro ?_ ?_ | with_reducible exact okay_rfl rfl | with_reducible assumption | omega)) : W P vl nt V (.seq (.reg ops false) a) st Kn Ke Kr := W_seq (W_regS (h ⟨k⟩) hn)
theorem u_15 (k : L) (hn : W P vl nt V a ⟨[], st'.vars, st'.objs, st.nx + 64 * ops.length⟩ (fun s => W P vl nt V b' s Kn Ke Kr) Ke Kr) (h : Hid L → RS V ops st st' := by intro k K hK; simp; repeat' (first | with_reducible exact hK | ((with_reducible first | refine callQ k.o.1 ?_ | refine callQ k.o.2.1 ?_ | refine callQ k.o.2.2.1 ?_ | refine callQ k.o.2.2.2.1 ?_ | refine callQ k.o.2.2.2.2.1 ?_ | refine callQ k.o.2.2.2.2.2.1 ?_ | refine callQ k.o.2.2.2.2.2.2.1 ?_ | refine callQ k.o.2.2.2.2.2.2.2.1 ?_); simp) | (with_reducible refine goL_split (fun _ => ?_) (fun _ => ?_) <;> simp) | with_reducible refine And.intro ?_ ?_ | with_reducible exact okay_rfl rfl | with_reducible assumption | omega)) : W P vl nt V (.seq (.seq (.reg ops false) a) b') st Kn Ke Kr := W_seq (W_seq (W_regS (h ⟨k⟩) hn))
theorem u_16 (hn : Kn ⟨[], st'.vars, st'.objs, st.nx + 64 * ops.length⟩) (h : RS V ops st st' := by intro K hK; simp [limit, t1, t2]; repeat' (first | with_reducible exact hK | (with_reducible refine goL_split (fun _ => ?_) (fun _ => ?_) <;> simp [limit, t1, t2]) | with_reducible refine And.intro ?_ ?_ | with_reducible exact okay_rfl rfl | with_reducible assumption | omega)) : W P vl nt V (.reg ops false) st Kn Ke Kr := W_regS (h) hn
theorem u_17 (e : E) (r : Nat) (b : Bool) (hn : Kn ⟨[], put st.vars r (.d (.bool b)), st.objs, st.nx + 64 * ops.length⟩) (h : Hid E → RB V ops st r b := by intro e K hK; simp [e.o]; repeat' (first | exact hK _ _ (by clear hK; exact bq) | (with_reducible refine goL_split (fun _ => ?_) (fun _ => ?_) <;> simp [e.o]) | with_reducible refine And.intro ?_ ?_ | with_reducible exact okay_rfl rfl | with_reducible assumption | omega)) : W P vl nt V (.reg ops false) st Kn Ke Kr := W_regB r b (h ⟨e⟩) hn
theorem u_18 (e : E) (k : L) (hn : W P vl nt V a ⟨[], st'.vars, st'.objs, st.nx + 64 * ops.length⟩ Kn Ke Kr) (h : Hid E → Hid L → RS V ops st st' := by intro e k K hK; simp [e.o]; repeat' (first | with_reducible exact hK | ((with_reducible first | refine callQ k.o.1 ?_ | refine callQ k.o.2.1 ?_ | refine callQ k.o.2.2.1 ?_ | refine callQ k.o.2.2.2.1 ?_ | refine callQ k.o.2.2.2.2.1 ?_ | refine callQ k.o.2.2.2.2.2.1 ?_ | refine callQ k.o.2.2.2.2.2.2.1 ?_ | refine callQ k.o.2.2.2.2.2.2.2.1 ?_); simp [e.o]) | (with_reducible refine goL_split (fun _ => ?_) (fun _ => ?_) <;> simp [e.o]) | with_reducible refine And.intro ?_ ?_ | with_reducible exact okay_rfl rfl | with_reducible assumption | omega)) : W P vl nt V (.seq (.reg ops false) a) st Kn Ke Kr := W_seq (W_regS (h ⟨e⟩ ⟨k⟩) hn)
theorem u_19 (k : L) (r : Nat) (b : Bool) (hn : W P vl nt V a ⟨[], put st.vars r (.d (.bool b)), st.objs, st.nx + 64 * ops.length⟩ Kn Ke Kr) (h : Hid L → RB V ops st r b := by intro k K hK; simp; repeat' (first | exact hK _ _ (by clear hK; exact bq) | ((with_reducible first | refine callQ k.o.1 ?_ | refine callQ k.o.2.1 ?_ | refine callQ k.o.2.2.1 ?_ | refine callQ k.o.2.2.2.1 ?_ | refine callQ k.o.2.2.2.2.1 ?_ | refine callQ k.o.2.2.2.2.2.1 ?_ | refine callQ k.o.2.2.2.2.2.2.1 ?_ | refine callQ k.o.2.2.2.2.2.2.2.1 ?_); simp) | (with_reducible refine goL_split (fun _ => ?_) (fun _ => ?_) <;> simp) | with_reducible refine And.intro ?_ ?_ | with_reducible exact okay_rfl rfl | with_reducible assumption | omega)) : W P vl nt V (.seq (.reg ops false) a) st Kn Ke Kr := W_seq (W_regB r b (h ⟨k⟩) hn)
theorem u_20 (e : E) (hn : W P vl nt V a ⟨[], st'.vars, st'.objs, st.nx + 64 * ops.length⟩ (fun s => W P vl nt V b' s Kn Ke Kr) Ke Kr) (h : Hid E → RS V ops st st' := by intro e K hK; simp [e.o]; repeat' (first | with_reducible exact hK | (with_reducible refine goL_split (fun _ => ?_) (fun _ => ?_) <;> simp [e.o]) | with_reducible refine And.intro ?_ ?_ | with_reducible exact okay_rfl rfl | with_reducible assumption | omega)) : W P vl nt V (.seq (.seq (.reg ops false) a) b') st Kn Ke Kr := W_seq (W_seq (W_regS (h ⟨e⟩) hn))
theorem u_21 (e : E) (k : L) (hn : W P vl nt V a ⟨[], st'.vars, st'.objs, st.nx + 64 * ops.length⟩ (fun s => W P vl nt V b' s Kn Ke Kr) Ke Kr) (h : Hid E → Hid L → RD V ops st st' := by intro e k K hK; simp [e.o]; repeat' (first | with_reducible exact hK | ((with_reducible first | refine callQ k.o.1 ?_ | refine callQ k.o.2.1 ?_ | refine callQ k.o.2.2.1 ?_ | refine callQ k.o.2.2.2.1 ?_ | refine callQ k.o.2.2.2.2.1 ?_ | refine callQ k.o.2.2.2.2.2.1 ?_ | refine callQ k.o.2.2.2.2.2.2.1 ?_ | refine callQ k.o.2.2.2.2.2.2.2.1 ?_); simp [e.o]) | (with_reducible refine goL_split (fun _ => ?_) (fun _ => ?_) <;> simp [e.o]) | with_reducible refine And.intro ?_ ?_ | with_reducible exact okay_rfl rfl | with_reducible assumption | omega)) : W P vl nt V (.seq (.seq (.reg ops true) a) b') st Kn Ke Kr := W_seq (W_seq (W_regD (h ⟨e⟩ ⟨k⟩) hn))
theorem u_22 (e : E) (h : Hid E → p := by intro e; (repeat' (first | refine W_seq ?_ | refine W_skip ?_ | refine W_block ?_ | refine W_exit ?_ | refine pick_pos rfl ?_ | refine pick_neg rfl ?_ | ((first | refine W_regP fun K hK => ?_ | refine W_regPD fun K hK => ?_ | refine W_ret ?_); simp [Fin, e.o]) | (with_reducible refine hK _ ?_; clear hK K) | (with_reducible refine goL_split (fun h => ?_) (fun h => ?_) <;> first | (exfalso; simp at h; first | done | omega | contradiction) | ((try simp at h); simp [e.o])) | with_reducible refine And.intro ?_ ?_ | with_reducible exact okay_rfl rfl | with_reducible assumption | (refine W_cond rfl (fun h => ?_) (fun h => ?_) <;> first | (exfalso; simp at h; first | done | omega | contradiction) | (exfalso; simp_all; done) | (try simp at h)) | omega)); all_goals first | exact h0.o | exact h1.o | exact h2.o | exact h3.o) : p := h ⟨e⟩
theorem u_23 (e : E) (h0 : q0) (h : Hid E → Hid q0 → p := by intro e; intro h0; exact u_22 e.o) : p := h ⟨e⟩ ⟨h0⟩
theorem u_24 (h : p := by simp [gc, closeN, liveA, gcV, gcO, renA, renAs, renO, namesAs, namesA, namesO, posn]) : p := h
theorem u_25 (e : E) (k : L) (h : Hid E → Hid L → p := by intro e k; (repeat' (first | refine W_seq ?_ | refine W_skip ?_ | refine W_block ?_ | refine W_exit ?_ | refine pick_pos rfl ?_ | refine pick_neg rfl ?_ | ((first | refine W_regP fun K hK => ?_ | refine W_regPD fun K hK => ?_ | refine W_ret ?_ | with_reducible refine callQ k.o.1 ?_ | with_reducible refine callQ k.o.2.1 ?_ | with_reducible refine callQ k.o.2.2.1 ?_ | with_reducible refine callQ k.o.2.2.2.1 ?_ | with_reducible refine callQ k.o.2.2.2.2.1 ?_ | with_reducible refine callQ k.o.2.2.2.2.2.1 ?_ | with_reducible refine callQ k.o.2.2.2.2.2.2.1 ?_ | with_reducible refine callQ k.o.2.2.2.2.2.2.2.1 ?_); simp [Fin, e.o, strs_get]) | (with_reducible refine hK _ ?_; clear hK K) | (with_reducible refine goL_split (fun h => ?_) (fun h => ?_) <;> first | (exfalso; simp at h; first | done | omega | contradiction) | ((try simp at h); simp [e.o, strs_get])) | with_reducible refine And.intro ?_ ?_ | with_reducible exact okay_rfl rfl | with_reducible assumption | (refine W_cond rfl (fun h => ?_) (fun h => ?_) <;> first | (exfalso; simp at h; first | done | omega | contradiction) | (exfalso; simp_all; done) | (try simp at h)) | omega)); all_goals first | exact h0.o | exact h1.o | exact h2.o | exact h3.o) : p := h ⟨e⟩ ⟨k⟩
theorem u_26 (e : E) (k : L) (h0 : q0) (h : Hid E → Hid L → Hid q0 → p := by intro e k; intro h0; exact u_25 e.o k.o) : p := h ⟨e⟩ ⟨k⟩ ⟨h0⟩
theorem u_27 (h0 : q0) (h : Hid q0 → p := by intro h0; (simp [gc, closeN, liveA, gcV, gcO, renA, renAs, renO, namesAs, namesA, namesO, posn]); exact h0.o) : p := h ⟨h0⟩
theorem u_28 (e : E) (k : L) (r : Nat) (b : Bool) (hn : W P vl nt V a ⟨[], put st.vars r (.d (.bool b)), st.objs, st.nx + 64 * ops.length⟩ Kn Ke Kr) (h : Hid E → Hid L → RB V ops st r b := by intro e k K hK; simp [e.o]; repeat' (first | exact hK _ _ (by clear hK; exact bq) | ((with_reducible first | refine callQ k.o.1 ?_ | refine callQ k.o.2.1 ?_ | refine callQ k.o.2.2.1 ?_ | refine callQ k.o.2.2.2.1 ?_ | refine callQ k.o.2.2.2.2.1 ?_ | refine callQ k.o.2.2.2.2.2.1 ?_ | refine callQ k.o.2.2.2.2.2.2.1 ?_ | refine callQ k.o.2.2.2.2.2.2.2.1 ?_); simp [e.o]) | (with_reducible refine goL_split (fun _ => ?_) (fun _ => ?_) <;> simp [e.o]) | with_reducible refine And.intro ?_ ?_ | with_reducible exact okay_rfl rfl | with_reducible assumption | omega)) : W P vl nt V (.seq (.reg ops false) a) st Kn Ke Kr := W_seq (W_regB r b (h ⟨e⟩ ⟨k⟩) hn)
theorem u_29 (h : p := by (repeat' (first | refine W_seq ?_ | refine W_skip ?_ | refine W_block ?_ | refine W_exit ?_ | refine pick_pos rfl ?_ | refine pick_neg rfl ?_ | ((first | refine W_regP fun K hK => ?_ | refine W_regPD fun K hK => ?_ | refine W_ret ?_); simp [Fin]) | (with_reducible refine hK _ ?_; clear hK K) | (with_reducible refine goL_split (fun h => ?_) (fun h => ?_) <;> first | (exfalso; simp at h; first | done | omega | contradiction) | ((try simp at h); simp)) | with_reducible refine And.intro ?_ ?_ | with_reducible exact okay_rfl rfl | with_reducible assumption | (refine W_cond rfl (fun h => ?_) (fun h => ?_) <;> first | (exfalso; simp at h; first | done | omega | contradiction) | (exfalso; simp_all; done) | (try simp at h)) | omega)); all_goals first | exact h0.o | exact h1.o | exact h2.o | exact h3.o) : p := h
theorem u_30 (h0 : q0) (h : Hid q0 → p := by intro h0; exact u_29) : p := h ⟨h0⟩
theorem u_31 (e : E) (k : L) (h : Hid E → Hid L → p := by intro e k; (repeat' (first | refine W_seq ?_ | refine W_skip ?_ | refine W_block ?_ | refine W_exit ?_ | refine pick_pos rfl ?_ | refine pick_neg rfl ?_ | ((first | refine W_regP fun K hK => ?_ | refine W_regPD fun K hK => ?_ | refine W_ret ?_ | with_reducible refine callQ k.o.1 ?_ | with_reducible refine callQ k.o.2.1 ?_ | with_reducible refine callQ k.o.2.2.1 ?_ | with_reducible refine callQ k.o.2.2.2.1 ?_ | with_reducible refine callQ k.o.2.2.2.2.1 ?_ | with_reducible refine callQ k.o.2.2.2.2.2.1 ?_ | with_reducible refine callQ k.o.2.2.2.2.2.2.1 ?_ | with_reducible refine callQ k.o.2.2.2.2.2.2.2.1 ?_); simp [Fin, e.o]) | (with_reducible refine hK _ ?_; clear hK K) | (with_reducible refine goL_split (fun h => ?_) (fun h => ?_) <;> first | (exfalso; simp at h; first | done | omega | contradiction) | ((try simp at h); simp [e.o])) | with_reducible refine And.intro ?_ ?_ | with_reducible exact okay_rfl rfl | with_reducible assumption | (refine W_cond rfl (fun h => ?_) (fun h => ?_) <;> first | (exfalso; simp at h; first | done | omega | contradiction) | (exfalso; simp_all; done) | (try simp at h)) | omega)); all_goals first | exact h0.o | exact h1.o | exact h2.o | exact h3.o) : p := h ⟨e⟩ ⟨k⟩
theorem u_32 (e : E) (k : L) (h0 : q0) (h : Hid E → Hid L → Hid q0 → p := by intro e k; intro h0; exact u_31 e.o k.o) : p := h ⟨e⟩ ⟨k⟩ ⟨h0⟩
theorem u_33 (k : L) (h : Hid L → p := by intro k; (repeat' (first | refine W_seq ?_ | refine W_skip ?_ | refine W_block ?_ | refine W_exit ?_ | refine pick_pos rfl ?_ | refine pick_neg rfl ?_ | ((first | refine W_regP fun K hK => ?_ | refine W_regPD fun K hK => ?_ | refine W_ret ?_ | with_reducible refine callQ k.o.1 ?_ | with_reducible refine callQ k.o.2.1 ?_ | with_reducible refine callQ k.o.2.2.1 ?_ | with_reducible refine callQ k.o.2.2.2.1 ?_ | with_reducible refine callQ k.o.2.2.2.2.1 ?_ | with_reducible refine callQ k.o.2.2.2.2.2.1 ?_ | with_reducible refine callQ k.o.2.2.2.2.2.2.1 ?_ | with_reducible refine callQ k.o.2.2.2.2.2.2.2.1 ?_); simp [Fin]) | (with_reducible refine hK _ ?_; clear hK K) | (with_reducible refine goL_split (fun h => ?_) (fun h => ?_) <;> first | (exfalso; simp at h; first | done | omega | contradiction) | ((try simp at h); simp)) | with_reducible refine And.intro ?_ ?_ | with_reducible exact okay_rfl rfl | with_reducible assumption | (refine W_cond rfl (fun h => ?_) (fun h => ?_) <;> first | (exfalso; simp at h; first | done | omega | contradiction) | (exfalso; simp_all; done) | (try simp at h)) | omega)); all_goals first | exact h0.o | exact h1.o | exact h2.o | exact h3.o) : p := h ⟨k⟩
theorem u_34 (e : E) (h : Hid E → p := by intro e; simp [gc, closeN, liveA, gcV, gcO, renA, renAs, renO, namesAs, namesA, namesO, posn, e.o]) : p := h ⟨e⟩
theorem u_35 (e : E) (h0 : q0) (h : Hid E → Hid q0 → p := by intro e; intro h0; (simp [gc, closeN, liveA, gcV, gcO, renA, renAs, renO, namesAs, namesA, namesO, posn, e.o]); exact h0.o) : p := h ⟨e⟩ ⟨h0⟩
theorem u_36 (k : L) (r : Nat) (b : Bool) (hn : Kn ⟨[], put st.vars r (.d (.bool b)), st.objs, st.nx + 64 * ops.length⟩) (h : Hid L → RB V ops st r b := by intro k K hK; simp; repeat' (first | exact hK _ _ (by clear hK; exact bq) | ((with_reducible first | refine callQ k.o.1 ?_ | refine callQ k.o.2.1 ?_ | refine callQ k.o.2.2.1 ?_ | refine callQ k.o.2.2.2.1 ?_ | refine callQ k.o.2.2.2.2.1 ?_ | refine callQ k.o.2.2.2.2.2.1 ?_ | refine callQ k.o.2.2.2.2.2.2.1 ?_ | refine callQ k.o.2.2.2.2.2.2.2.1 ?_); simp) | (with_reducible refine goL_split (fun _ => ?_) (fun _ => ?_) <;> simp) | with_reducible refine And.intro ?_ ?_ | with_reducible exact okay_rfl rfl | with_reducible assumption | omega)) : W P vl nt V (.reg ops false) st Kn Ke Kr := W_regB r b (h ⟨k⟩) hn
theorem u_37 (k : L) (h0 : q0) (h : Hid L → Hid q0 → p := by intro k; intro h0; exact u_33 k.o) : p := h ⟨k⟩ ⟨h0⟩
theorem u_38 (h : p := by (repeat' (first | refine W_seq ?_ | refine W_skip ?_ | refine W_block ?_ | refine W_exit ?_ | refine pick_pos rfl ?_ | refine pick_neg rfl ?_ | ((first | refine W_regP fun K hK => ?_ | refine W_regPD fun K hK => ?_ | refine W_ret ?_); simp [Fin, ints_len]) | (with_reducible refine hK _ ?_; clear hK K) | (with_reducible refine goL_split (fun h => ?_) (fun h => ?_) <;> first | (exfalso; simp at h; first | done | omega | contradiction) | ((try simp at h); simp [ints_len])) | with_reducible refine And.intro ?_ ?_ | with_reducible exact okay_rfl rfl | with_reducible assumption | (refine W_cond rfl (fun h => ?_) (fun h => ?_) <;> first | (exfalso; simp at h; first | done | omega | contradiction) | (exfalso; simp_all; done) | (try simp at h)) | omega)); all_goals first | exact h0.o | exact h1.o | exact h2.o | exact h3.o) : p := h
theorem u_39 (h0 : q0) (h : Hid q0 → p := by intro h0; exact u_38) : p := h ⟨h0⟩
theorem u_40 (h : p := by simp [gc, closeN, liveA, gcV, gcO, renA, renAs, renO, namesAs, namesA, namesO, posn, ints_len]) : p := h
theorem u_41 (e : E) (h : Hid E → p := by intro e; (repeat' (first | refine W_seq ?_ | refine W_skip ?_ | refine W_block ?_ | refine W_exit ?_ | refine pick_pos rfl ?_ | refine pick_neg rfl ?_ | ((first | refine W_regP fun K hK => ?_ | refine W_regPD fun K hK => ?_ | refine W_ret ?_); simp [Fin, e.o, ints_get]) | (with_reducible refine hK _ ?_; clear hK K) | (with_reducible refine goL_split (fun h => ?_) (fun h => ?_) <;> first | (exfalso; simp at h; first | done | omega | contradiction) | ((try simp at h); simp [e.o, ints_get])) | with_reducible refine And.intro ?_ ?_ | with_reducible exact okay_rfl rfl | with_reducible assumption | (refine W_cond rfl (fun h => ?_) (fun h => ?_) <;> first | (exfalso; simp at h; first | done | omega | contradiction) | (exfalso; simp_all; done) | (try simp at h)) | omega)); all_goals first | exact h0.o | exact h1.o | exact h2.o | exact h3.o) : p := h ⟨e⟩
theorem u_42 (h0 : q0) (h : Hid q0 → p := by intro h0; (simp [gc, closeN, liveA, gcV, gcO, renA, renAs, renO, namesAs, namesA, namesO, posn, ints_len]); exact h0.o) : p := h ⟨h0⟩
theorem u_43 (e : E) (h : Hid E → p := by intro e; (repeat' (first | refine W_seq ?_ | refine W_skip ?_ | refine W_block ?_ | refine W_exit ?_ | refine pick_pos rfl ?_ | refine pick_neg rfl ?_ | ((first | refine W_regP fun K hK => ?_ | refine W_regPD fun K hK => ?_ | refine W_ret ?_); simp [Fin, e.o, ints_get, ints_len]) | (with_reducible refine hK _ ?_; clear hK K) | (with_reducible refine goL_split (fun h => ?_) (fun h => ?_) <;> first | (exfalso; simp at h; first | done | omega | contradiction) | ((try simp at h); simp [e.o, ints_get, ints_len])) | with_reducible refine And.intro ?_ ?_ | with_reducible exact okay_rfl rfl | with_reducible assumption | (refine W_cond rfl (fun h => ?_) (fun h => ?_) <;> first | (exfalso; simp at h; first | done | omega | contradiction) | (exfalso; simp_all; done) | (try simp at h)) | omega)); all_goals first | exact h0.o | exact h1.o | exact h2.o | exact h3.o) : p := h ⟨e⟩
theorem u_44 (e : E) (k : L) (h : Hid E → Hid L → p := by intro e k; (repeat' (first | refine W_seq ?_ | refine W_skip ?_ | refine W_block ?_ | refine W_exit ?_ | refine pick_pos rfl ?_ | refine pick_neg rfl ?_ | ((first | refine W_regP fun K hK => ?_ | refine W_regPD fun K hK => ?_ | refine W_ret ?_ | with_reducible refine callQ k.o.1 ?_ | with_reducible refine callQ k.o.2.1 ?_ | with_reducible refine callQ k.o.2.2.1 ?_ | with_reducible refine callQ k.o.2.2.2.1 ?_ | with_reducible refine callQ k.o.2.2.2.2.1 ?_ | with_reducible refine callQ k.o.2.2.2.2.2.1 ?_ | with_reducible refine callQ k.o.2.2.2.2.2.2.1 ?_ | with_reducible refine callQ k.o.2.2.2.2.2.2.2.1 ?_); simp [Fin, e.o, ints_len, limit]) | (with_reducible refine hK _ ?_; clear hK K) | (with_reducible refine goL_split (fun h => ?_) (fun h => ?_) <;> first | (exfalso; simp at h; first | done | omega | contradiction) | ((try simp at h); simp [e.o, ints_len, limit])) | with_reducible refine And.intro ?_ ?_ | with_reducible exact okay_rfl rfl | with_reducible assumption | (refine W_cond rfl (fun h => ?_) (fun h => ?_) <;> first | (exfalso; simp at h; first | done | omega | contradiction) | (exfalso; simp_all; done) | (try simp at h)) | omega)); all_goals first | exact h0.o | exact h1.o | exact h2.o | exact h3.o) : p := h ⟨e⟩ ⟨k⟩
theorem u_45 (e : E) (k : L) (h0 : q0) (h : Hid E → Hid L → Hid q0 → p := by intro e k; intro h0; exact u_44 e.o k.o) : p := h ⟨e⟩ ⟨k⟩ ⟨h0⟩
theorem u_46 (h0 : q0) (h : Hid q0 → p := by intro h0; (simp [gc, closeN, liveA, gcV, gcO, renA, renAs, renO, namesAs, namesA, namesO, posn, intsD_snoc]); exact h0.o) : p := h ⟨h0⟩
theorem u_47 (h : p := by (repeat' (first | refine W_seq ?_ | refine W_skip ?_ | refine W_block ?_ | refine W_exit ?_ | refine pick_pos rfl ?_ | refine pick_neg rfl ?_ | ((first | refine W_regP fun K hK => ?_ | refine W_regPD fun K hK => ?_ | refine W_ret ?_); simp [Fin, strsD_len]) | (with_reducible refine hK _ ?_; clear hK K) | (with_reducible refine goL_split (fun h => ?_) (fun h => ?_) <;> first | (exfalso; simp at h; first | done | omega | contradiction) | ((try simp at h); simp [strsD_len])) | with_reducible refine And.intro ?_ ?_ | with_reducible exact okay_rfl rfl | with_reducible assumption | (refine W_cond rfl (fun h => ?_) (fun h => ?_) <;> first | (exfalso; simp at h; first | done | omega | contradiction) | (exfalso; simp_all; done) | (try simp at h)) | omega)); all_goals first | exact h0.o | exact h1.o | exact h2.o | exact h3.o) : p := h
theorem u_48 (h : p := by simp [gc, closeN, liveA, gcV, gcO, renA, renAs, renO, namesAs, namesA, namesO, posn, rToken]) : p := h
theorem u_49 (e : E) (k : L) (h : Hid E → Hid L → p := by intro e k; (repeat' (first | refine W_seq ?_ | refine W_skip ?_ | refine W_block ?_ | refine W_exit ?_ | refine pick_pos rfl ?_ | refine pick_neg rfl ?_ | ((first | refine W_regP fun K hK => ?_ | refine W_regPD fun K hK => ?_ | refine W_ret ?_ | with_reducible refine callQ k.o.1 ?_ | with_reducible refine callQ k.o.2.1 ?_ | with_reducible refine callQ k.o.2.2.1 ?_ | with_reducible refine callQ k.o.2.2.2.1 ?_ | with_reducible refine callQ k.o.2.2.2.2.1 ?_ | with_reducible refine callQ k.o.2.2.2.2.2.1 ?_ | with_reducible refine callQ k.o.2.2.2.2.2.2.1 ?_ | with_reducible refine callQ k.o.2.2.2.2.2.2.2.1 ?_); simp [Fin, e.o, limit]) | (with_reducible refine hK _ ?_; clear hK K) | (with_reducible refine goL_split (fun h => ?_) (fun h => ?_) <;> first | (exfalso; simp at h; first | done | omega | contradiction) | ((try simp at h); simp [e.o, limit])) | with_reducible refine And.intro ?_ ?_ | with_reducible exact okay_rfl rfl | with_reducible assumption | (refine W_cond rfl (fun h => ?_) (fun h => ?_) <;> first | (exfalso; simp at h; first | done | omega | contradiction) | (exfalso; simp_all; done) | (try simp at h)) | omega)); all_goals first | exact h0.o | exact h1.o | exact h2.o | exact h3.o) : p := h ⟨e⟩ ⟨k⟩
theorem u_50 (e : E) (k : L) (h0 : q0) (h : Hid E → Hid L → Hid q0 → p := by intro e k; intro h0; exact u_49 e.o k.o) : p := h ⟨e⟩ ⟨k⟩ ⟨h0⟩
theorem u_51 (h : p := by simp [gc, closeN, liveA, gcV, gcO, renA, renAs, renO, namesAs, namesA, namesO, posn, rLease]) : p := h
theorem u_52 (e : E) (h : Hid E → p := by intro e; (repeat' (first | refine W_seq ?_ | refine W_skip ?_ | refine W_block ?_ | refine W_exit ?_ | refine pick_pos rfl ?_ | refine pick_neg rfl ?_ | ((first | refine W_regP fun K hK => ?_ | refine W_regPD fun K hK => ?_ | refine W_ret ?_); simp [Fin, e.o, limit]) | (with_reducible refine hK _ ?_; clear hK K) | (with_reducible refine goL_split (fun h => ?_) (fun h => ?_) <;> first | (exfalso; simp at h; first | done | omega | contradiction) | ((try simp at h); simp [e.o, limit])) | with_reducible refine And.intro ?_ ?_ | with_reducible exact okay_rfl rfl | with_reducible assumption | (refine W_cond rfl (fun h => ?_) (fun h => ?_) <;> first | (exfalso; simp at h; first | done | omega | contradiction) | (exfalso; simp_all; done) | (try simp at h)) | omega)); all_goals first | exact h0.o | exact h1.o | exact h2.o | exact h3.o) : p := h ⟨e⟩
theorem u_53 (e : E) (h0 : q0) (h : Hid E → Hid q0 → p := by intro e; intro h0; exact u_52 e.o) : p := h ⟨e⟩ ⟨h0⟩
theorem u_54 (h : p := by simp [gc, closeN, liveA, gcV, gcO, renA, renAs, renO, namesAs, namesA, namesO, posn, rUser]) : p := h
theorem u_55 (k : L) (hn : Kn ⟨[], st'.vars, st'.objs, st.nx + 64 * ops.length⟩) (h : Hid L → RS V ops st st' := by intro k K hK; simp; repeat' (first | with_reducible exact hK | ((with_reducible first | refine callQ k.o.1 ?_ | refine callQ k.o.2.1 ?_ | refine callQ k.o.2.2.1 ?_ | refine callQ k.o.2.2.2.1 ?_ | refine callQ k.o.2.2.2.2.1 ?_ | refine callQ k.o.2.2.2.2.2.1 ?_ | refine callQ k.o.2.2.2.2.2.2.1 ?_ | refine callQ k.o.2.2.2.2.2.2.2.1 ?_); simp) | (with_reducible refine goL_split (fun _ => ?_) (fun _ => ?_) <;> simp) | with_reducible refine And.intro ?_ ?_ | with_reducible exact okay_rfl rfl | with_reducible assumption | omega)) : W P vl nt V (.reg ops false) st Kn Ke Kr := W_regS (h ⟨k⟩) hn
theorem u_56 (k : L) (h : Hid L → p := by intro k; (repeat' (first | refine W_seq ?_ | refine W_skip ?_ | refine W_block ?_ | refine W_exit ?_ | refine pick_pos rfl ?_ | refine pick_neg rfl ?_ | ((first | refine W_regP fun K hK => ?_ | refine W_regPD fun K hK => ?_ | refine W_ret ?_ | with_reducible refine callQ k.o.1 ?_ | with_reducible refine callQ k.o.2.1 ?_ | with_reducible refine callQ k.o.2.2.1 ?_ | with_reducible refine callQ k.o.2.2.2.1 ?_ | with_reducible refine callQ k.o.2.2.2.2.1 ?_ | with_reducible refine callQ k.o.2.2.2.2.2.1 ?_ | with_reducible refine callQ k.o.2.2.2.2.2.2.1 ?_ | with_reducible refine callQ k.o.2.2.2.2.2.2.2.1 ?_); simp [Fin, limit]) | (with_reducible refine hK _ ?_; clear hK K) | (with_reducible refine goL_split (fun h => ?_) (fun h => ?_) <;> first | (exfalso; simp at h; first | done | omega | contradiction) | ((try simp at h); simp [limit])) | with_reducible refine And.intro ?_ ?_ | with_reducible exact okay_rfl rfl | with_reducible assumption | (refine W_cond rfl (fun h => ?_) (fun h => ?_) <;> first | (exfalso; simp at h; first | done | omega | contradiction) | (exfalso; simp_all; done) | (try simp at h)) | omega)); all_goals first | exact h0.o | exact h1.o | exact h2.o | exact h3.o) : p := h ⟨k⟩
theorem u_57 (h : p := by simp [gc, closeN, liveA, gcV, gcO, renA, renAs, renO, namesAs, namesA, namesO, posn, rJob, rq, strsD]) : p := h
theorem u_58 (h0 : q0) (h : Hid q0 → p := by intro h0; (simp [gc, closeN, liveA, gcV, gcO, renA, renAs, renO, namesAs, namesA, namesO, posn, ← rJob_one]); exact h0.o) : p := h ⟨h0⟩
theorem u_59 (h0 : q0) (h : Hid q0 → p := by intro h0; (simp [gc, closeN, liveA, gcV, gcO, renA, renAs, renO, namesAs, namesA, namesO, posn, ← strsD_one]); exact h0.o) : p := h ⟨h0⟩
theorem u_60 (e : E) (k : L) (h : Hid E → Hid L → p := by intro e k; (repeat' (first | refine W_seq ?_ | refine W_skip ?_ | refine W_block ?_ | refine W_exit ?_ | refine pick_pos rfl ?_ | refine pick_neg rfl ?_ | ((first | refine W_regP fun K hK => ?_ | refine W_regPD fun K hK => ?_ | refine W_ret ?_ | with_reducible refine callQ k.o.1 ?_ | with_reducible refine callQ k.o.2.1 ?_ | with_reducible refine callQ k.o.2.2.1 ?_ | with_reducible refine callQ k.o.2.2.2.1 ?_ | with_reducible refine callQ k.o.2.2.2.2.1 ?_ | with_reducible refine callQ k.o.2.2.2.2.2.1 ?_ | with_reducible refine callQ k.o.2.2.2.2.2.2.1 ?_ | with_reducible refine callQ k.o.2.2.2.2.2.2.2.1 ?_); simp [Fin, e.o, limit, shBin_shl]) | (with_reducible refine hK _ ?_; clear hK K) | (with_reducible refine goL_split (fun h => ?_) (fun h => ?_) <;> first | (exfalso; simp at h; first | done | omega | contradiction) | ((try simp at h); simp [e.o, limit, shBin_shl])) | with_reducible refine And.intro ?_ ?_ | with_reducible exact okay_rfl rfl | with_reducible assumption | (refine W_cond rfl (fun h => ?_) (fun h => ?_) <;> first | (exfalso; simp at h; first | done | omega | contradiction) | (exfalso; simp_all; done) | (try simp at h)) | omega)); all_goals first | exact h0.o | exact h1.o | exact h2.o | exact h3.o) : p := h ⟨e⟩ ⟨k⟩
theorem u_61 (e : E) (k : L) (h0 : q0) (h : Hid E → Hid L → Hid q0 → p := by intro e k; intro h0; exact u_60 e.o k.o) : p := h ⟨e⟩ ⟨k⟩ ⟨h0⟩
theorem u_62 (h : p := by simp [gc, closeN, liveA, gcV, gcO, renA, renAs, renO, namesAs, namesA, namesO, posn, letAll]) : p := h
theorem u_63 (h0 : q0) (h : Hid q0 → p := by intro h0; (simp [gc, closeN, liveA, gcV, gcO, renA, renAs, renO, namesAs, namesA, namesO, posn, loseW]); exact h0.o) : p := h ⟨h0⟩
theorem u_64 (e : E) (h : Hid E → p := by intro e; (repeat' (first | refine W_seq ?_ | refine W_skip ?_ | refine W_block ?_ | refine W_exit ?_ | refine pick_pos rfl ?_ | refine pick_neg rfl ?_ | ((first | refine W_regP fun K hK => ?_ | refine W_regPD fun K hK => ?_ | refine W_ret ?_); simp [Fin, e.o, rLease_setX]) | (with_reducible refine hK _ ?_; clear hK K) | (with_reducible refine goL_split (fun h => ?_) (fun h => ?_) <;> first | (exfalso; simp at h; first | done | omega | contradiction) | ((try simp at h); simp [e.o, rLease_setX])) | with_reducible refine And.intro ?_ ?_ | with_reducible exact okay_rfl rfl | with_reducible assumption | (refine W_cond rfl (fun h => ?_) (fun h => ?_) <;> first | (exfalso; simp at h; first | done | omega | contradiction) | (exfalso; simp_all; done) | (try simp at h)) | omega)); all_goals first | exact h0.o | exact h1.o | exact h2.o | exact h3.o) : p := h ⟨e⟩
theorem u_65 (e : E) (h0 : q0) (h : Hid E → Hid q0 → p := by intro e; intro h0; exact u_64 e.o) : p := h ⟨e⟩ ⟨h0⟩
theorem u_66 (h : p := by simp [gc, closeN, liveA, gcV, gcO, renA, renAs, renO, namesAs, namesA, namesO, posn, intsD]) : p := h
theorem u_67 (k : L) (h : Hid L → p := by intro k; (repeat' (first | refine W_seq ?_ | refine W_skip ?_ | refine W_block ?_ | refine W_exit ?_ | refine pick_pos rfl ?_ | refine pick_neg rfl ?_ | ((first | refine W_regP fun K hK => ?_ | refine W_regPD fun K hK => ?_ | refine W_ret ?_ | with_reducible refine callQ k.o.1 ?_ | with_reducible refine callQ k.o.2.1 ?_ | with_reducible refine callQ k.o.2.2.1 ?_ | with_reducible refine callQ k.o.2.2.2.1 ?_ | with_reducible refine callQ k.o.2.2.2.2.1 ?_ | with_reducible refine callQ k.o.2.2.2.2.2.1 ?_ | with_reducible refine callQ k.o.2.2.2.2.2.2.1 ?_ | with_reducible refine callQ k.o.2.2.2.2.2.2.2.1 ?_); simp [Fin, intsD, strsD]) | (with_reducible refine hK _ ?_; clear hK K) | (with_reducible refine goL_split (fun h => ?_) (fun h => ?_) <;> first | (exfalso; simp at h; first | done | omega | contradiction) | ((try simp at h); simp [intsD, strsD])) | with_reducible refine And.intro ?_ ?_ | with_reducible exact okay_rfl rfl | with_reducible assumption | (refine W_cond rfl (fun h => ?_) (fun h => ?_) <;> first | (exfalso; simp at h; first | done | omega | contradiction) | (exfalso; simp_all; done) | (try simp at h)) | omega)); all_goals first | exact h0.o | exact h1.o | exact h2.o | exact h3.o) : p := h ⟨k⟩
end
theorem wrap_id {n : Int} (h1 : -9223372036854775808 ≤ n) (h2 : n ≤ 9223372036854775807) : IntKind.i64.wrap n = n := by
  rw [IntKind.wrap_i64]; omega
theorem take_succ_eq {α : Type} {a b : List α} {i : Nat} {x : α} (h : a.take i = b.take i) (ha : a[i]? = some x) (hb : b[i]? = some x) : a.take (i + 1) = b.take (i + 1) := by
  rw [List.take_add_one, List.take_add_one, h, ha, hb]
theorem row_one {R : List (List D)} {i : Nat} (h : ∀ r, r ∈ R → r.length = 1) (hi : i < R.length) : ∃ d, R[i]? = some [d] := by
  have := h _ (List.getElem_mem hi)
  rw [List.length_eq_one_iff] at this
  obtain ⟨d, hd⟩ := this
  exact ⟨d, by rw [List.getElem?_eq_getElem hi, hd]⟩
theorem set_one {R : List (List D)} {i : Nat} {d : D} (h : ∀ r, r ∈ R → r.length = 1) : ∀ r, r ∈ R.set i [d] → r.length = 1 := by
  intro r hr
  rcases List.mem_or_eq_of_mem_set hr with h1 | h1
  · exact h r h1
  · subst h1; rfl
theorem take_set_succ {R : List (List D)} {i : Nat} {r : List D} (hi : i < R.length) : (R.set i r).take (i + 1) = R.take i ++ [r] := by
  rw [List.take_add_one, List.take_set_of_le (Nat.le_refl _)]
  simp [hi]
theorem ofBytes_bytesD (s : List UInt8) : ofBytes (bytesD s) = some s := by
  induction s with
  | nil => rfl
  | cons x s ih => simp [bytesD, ofBytes] at ih ⊢; exact ih
theorem strOf_bytesD (s : List UInt8) : strOf (.slc 1 (bytesD s)) = out (.d (.str s)) := by
  cases s with
  | nil => rfl
  | cons x s => simp only [strOf, ofBytes_bytesD]; simp [bytesD]
theorem eqIntS_ok (a b : List Int) (hsz : a.length ≤ 281474976710656) : Valid PP GG 24 [.d (.slc 1 (intsD a)), .d (.slc 1 (intsD b))] (.d (.bool (a == b))) [none, none] := by
  refine cv Tryz.func24 [.d (.bool (a == b))] ?_
  refine u_1 ?_
  refine u_2 ?_
  refine W_cond rfl (fun h => W_seq ?_) (fun hlen => W_skip ?_)
  · refine u_3 ?_
    have : (a == b) = false := by simp at h ⊢; intro e; subst e; exact h rfl
    exact u_4
  refine W_seq (W_seq (?_))
  simp at hlen
  refine u_3 ?_
  refine W_block (W_loop (fun n st => ∃ i : Nat, n = a.length - i ∧ i ≤ a.length ∧ a.take i = b.take i ∧ st = ⟨[], [(0, .d (.slc 1 (intsD a))), (1, .d (.slc 1 (intsD b))), (5, .d (.int .i64 i))], [], 0⟩) _ ⟨0, rfl, by omega, rfl, rfl⟩ ?_)
  rintro n st ⟨i, rfl, hi, he, rfl⟩
  refine u_2 ?_
  refine W_cond rfl (fun h => W_skip ?_) (fun h => W_exit ?_)
  · simp at h
    have ha := List.getElem?_eq_getElem h
    have hb := List.getElem?_eq_getElem (show i < b.length by omega)
    generalize a[i] = x at ha
    generalize b[i]'_ = y at hb
    refine W_seq (W_block (W_seq ?_))
    refine u_5 (Y2 ha hb) ?_
    refine W_cond rfl (fun h2 => W_seq ?_) (fun h2 => W_skip ?_)
    · refine u_3 ?_
      have : (a == b) = false := by simp; intro e; subst e; simp [ha] at hb; subst hb; simp at h2
      exact u_4
    refine u_3 ?_
    have hxy : x = y := by simpa using h2
    subst hxy
    exact ⟨a.length - (i + 1), by omega, i + 1, rfl, h, take_succ_eq he ha hb, by simp [gc, closeN, liveA, gcV, gcO, renA, namesAs, namesA]; rw [wrap_id (by omega) (by omega)]⟩
  · simp at h
    rw [if_pos rfl]
    refine u_1 ?_
    have : (a == b) = true := by
      simp
      rwa [List.take_of_length_le h, List.take_of_length_le (by omega)] at he
    exact u_4
theorem eqStringS_ok (a b : List (List UInt8)) (hsz : a.length ≤ 281474976710656) : Valid PP GG 18 [.d (.slc 1 (strsD a)), .d (.slc 1 (strsD b))] (.d (.bool (a == b))) [none, none] := by
  refine cv Tryz.func18 [.d (.bool (a == b))] ?_
  refine u_1 ?_
  refine u_2 ?_
  refine W_cond rfl (fun h => W_seq ?_) (fun hlen => W_skip ?_)
  · refine u_3 ?_
    have : (a == b) = false := by simp at h ⊢; intro e; subst e; exact h rfl
    exact u_4
  refine W_seq (W_seq (?_))
  simp at hlen
  refine u_3 ?_
  refine W_block (W_loop (fun n st => ∃ i : Nat, n = a.length - i ∧ i ≤ a.length ∧ a.take i = b.take i ∧ st = ⟨[], [(0, .d (.slc 1 (strsD a))), (1, .d (.slc 1 (strsD b))), (5, .d (.int .i64 i))], [], 0⟩) _ ⟨0, rfl, by omega, rfl, rfl⟩ ?_)
  rintro n st ⟨i, rfl, hi, he, rfl⟩
  refine u_2 ?_
  refine W_cond rfl (fun h => W_skip ?_) (fun h => W_exit ?_)
  · simp at h
    have ha := List.getElem?_eq_getElem h
    have hb := List.getElem?_eq_getElem (show i < b.length by omega)
    generalize a[i] = x at ha
    generalize b[i]'_ = y at hb
    refine W_seq (W_block (W_seq ?_))
    refine u_5 (Y2 ha hb) ?_
    refine W_cond rfl (fun h2 => W_seq ?_) (fun h2 => W_skip ?_)
    · refine u_3 ?_
      have : (a == b) = false := by simp; intro e; subst e; simp [ha] at hb; subst hb; simp at h2
      exact u_4
    refine u_3 ?_
    have hxy : x = y := by simpa using h2
    subst hxy
    exact ⟨a.length - (i + 1), by omega, i + 1, rfl, h, take_succ_eq he ha hb, by simp [gc, closeN, liveA, gcV, gcO, renA, namesAs, namesA]; rw [wrap_id (by omega) (by omega)]⟩
  · simp at h
    rw [if_pos rfl]
    refine u_1 ?_
    have : (a == b) = true := by
      simp
      rwa [List.take_of_length_le h, List.take_of_length_le (by omega)] at he
    exact u_4
theorem strsD_succ {a : List (List UInt8)} {i : Nat} {x : (List UInt8)} (ha : a[i]? = some x) : strsD (a.take (i + 1)) = strsD (a.take i) ++ [[.str x]] := by
  rw [List.take_add_one, ha]; simp [strsD]
theorem toStringS_ok (a : List (List UInt8)) (hsz : a.length * 16 ≤ 140737488355328) : Valid PP GG 221 [.d (.slc 1 (strsD a))] (.own 0 1 (strsD a)) [none] := by
  refine cv Tryz.func221 [.own 0 1 (strsD a)] ?_
  refine u_1 ?_
  refine u_6 ?_
  refine u_2 ?_
  refine W_block (W_loop (fun n st => ∃ (i : Nat) (R : List (List D)), n = a.length - i ∧ i ≤ a.length ∧ R.length = a.length ∧ (∀ r, r ∈ R → r.length = 1) ∧ R.take i = strsD (a.take i) ∧
    st = ⟨[], [(0, .d (.slc 1 (strsD a))), (3, .sl 0), (4, .d (.int .i64 i))], [(0, .arr 0 0 1 R)], 1⟩) _ ⟨0, List.replicate a.length [.str []], rfl, by omega, by simp, by simp, rfl, rfl⟩ ?_)
  rintro n st ⟨i, R, rfl, hi, hl, h1, hR, rfl⟩
  refine u_2 ?_
  refine W_cond rfl (fun h => W_skip ?_) (fun h => W_exit ?_)
  · simp at h
    have ha := List.getElem?_eq_getElem h
    generalize a[i] = x at ha
    obtain ⟨d, hd⟩ := row_one h1 (show i < R.length by omega)
    refine W_seq (W_block ?_)
    refine u_7 (Y3 ha hd hl) ?_
    refine u_3 ?_
    exact ⟨a.length - (i + 1), by omega, i + 1, R.set i [.str x], rfl, h, by simpa using hl, set_one h1, by rw [take_set_succ (by omega), hR, strsD_succ ha],
      by simp [gc, closeN, liveA, gcV, gcO, renA, renO, namesAs, namesA, namesO, posn]; rw [wrap_id (by omega) (by omega)]⟩
  · simp at h
    have e : R = strsD a := by rwa [List.take_of_length_le (by omega), List.take_of_length_le (by omega)] at hR
    subst e
    rw [if_pos rfl]
    refine u_1 ?_
    exact u_8
theorem l01In_ok (x lo hi : Int) : Valid PP GG 49 [.d (.int .i64 x), .d (.int .i64 lo), .d (.int .i64 hi)] (.d (.bool (decide (lo ≤ x) && decide (x ≤ hi)))) [none, none, none] := by
  refine cv Tryz.func49 [.d (.bool (decide (lo ≤ x) && decide (x ≤ hi)))] ?_
  refine u_1 ?_
  refine u_9 6 (decide (lo ≤ x) && decide (x ≤ hi)) ?_
  exact u_8
theorem within_ok (x lo hi : Int) : Valid PP GG 103 [.d (.int .i64 x), .d (.int .i64 lo), .d (.int .i64 hi)] (.d (.bool (decide (lo ≤ x) && decide (x ≤ hi)))) [none, none, none] := by
  refine cv Tryz.func103 [.d (.bool (decide (lo ≤ x) && decide (x ≤ hi)))] ?_
  refine u_1 ?_
  refine u_9 6 (decide (lo ≤ x) && decide (x ≤ hi)) ?_
  exact u_8
def digs (n : Nat) : List UInt8 := if h : n = 0 then [] else digs (n / 10) ++ [UInt8.ofNat (48 + n % 10)]
termination_by n
decreasing_by omega
def markT (k : Int) : List UInt8 := if k ≤ 0 then [109, 48] else 109 :: digs k.toNat
theorem digs_len (n : Nat) : (digs n).length ≤ n := by
  induction n using Nat.strongRecOn with
  | _ n ih =>
    rw [digs]
    split
    · simp
    · have := ih (n / 10) (by omega)
      simp; omega
theorem u8_digit (n : Nat) : IntKind.u8.wrap (IntKind.i64.wrap (48 + ((n % 10 : Nat) : Int))) = ((UInt8.ofNat (48 + n % 10)).toNat : Int) := by
  rw [wrap_id (by omega) (by omega), IntKind.wrap_u8, UInt8.toNat_ofNat']
  have : (48 + n % 10) % 2 ^ 8 = 48 + n % 10 := by omega
  rw [this]; omega
theorem bytes_one (v : UInt8) : [[D.int .u8 v.toNat]] = bytesD [v] := rfl
theorem markText_ok (k : Int) (hk : k ≤ 4611686018427387904) : Valid PP GG 75 [.d (.int .i64 k)] (.d (.str (markT k))) [none] := by
  refine cv Tryz.func75 [.d (.str (markT k))] ?_
  refine u_1 ?_
  refine u_2 ?_
  refine W_cond rfl (fun h => W_seq ?_) (fun h => W_skip ?_)
  · simp at h
    refine u_3 ?_
    have : markT k = [109, 48] := by unfold markT; rw [if_pos h]
    exact u_4
  simp at h
  refine u_1 ?_
  refine W_seq (?_)
  refine W_block (W_loop (fun n st => ∃ (m : Nat) (out : List UInt8), n = m ∧ digs m ++ out = digs k.toNat ∧ (m : Int) ≤ k ∧
    st = ⟨[], [(0, .d (.int .i64 m)), (3, .d (.str out))], [], 0⟩) _ ⟨k.toNat, [], rfl, by simp, by omega, by simp [gc, closeN, liveA, gcV, gcO, renA, namesAs, namesA]; omega⟩ ?_)
  rintro m st ⟨m', out, rfl, he, hm, rfl⟩
  refine u_2 ?_
  refine W_cond rfl (fun h2 => W_skip ?_) (fun h2 => W_exit ?_)
  · simp at h2
    have hd := u8_digit m
    have hl : out.length ≤ 4611686018427387904 := by
      have h1 := digs_len k.toNat
      rw [← he] at h1
      simp at h1
      omega
    have ht : ((m : Int).tmod 10) = ((m % 10 : Nat) : Int) := rfl
    have hq : IntKind.i64.wrap ((m : Int).tdiv 10) = ((m / 10 : Nat) : Int) := by
      have : (m : Int).tdiv 10 = ((m / 10 : Nat) : Int) := rfl
      rw [this]; exact wrap_id (by omega) (by omega)
    obtain ⟨r, hr⟩ : ∃ r : Nat, r = m % 10 := ⟨_, rfl⟩
    obtain ⟨q, hqq⟩ : ∃ q : Nat, q = m / 10 := ⟨_, rfl⟩
    rw [← hr] at hd ht
    rw [← hqq] at hq
    obtain ⟨v, hv⟩ : ∃ v, v = UInt8.ofNat (48 + r) := ⟨_, rfl⟩
    rw [← hv] at hd
    simp at hq
    refine W_block (W_seq ?_)
    apply W_regS
    · intro K hK
      simp [ht, hd, litA, bytes_one, strOf_bytesD, maxStr]
      repeat' (first | with_reducible exact hK | (with_reducible refine goL_split (fun _ => ?_) (fun _ => ?_) <;> simp [ht, hd, litA, bytes_one, strOf_bytesD, maxStr]) | with_reducible refine And.intro ?_ ?_ | with_reducible exact okay_rfl rfl | with_reducible assumption | omega)
    refine u_7 hq ?_
    refine ⟨q, by omega, q, v :: out, rfl, ?_, by omega, by simp [gc, closeN, liveA, gcV, gcO, renA, namesAs, namesA]⟩
    rw [← he, digs.eq_1 m, dif_neg (by omega), ← hqq, ← hr, ← hv]
    simp
  · simp at h2
    rw [if_pos rfl]
    have : m = 0 := by omega
    subst this
    have hz : digs 0 = [] := by rw [digs]; simp
    rw [hz, List.nil_append] at he
    have hl : out.length ≤ 4611686018427387904 := by
      have h1 := digs_len k.toNat
      rw [← he] at h1
      omega
    refine W_seq (?_)
    apply W_regS
    · intro K hK
      simp [maxStr]
      repeat' (first | with_reducible exact hK | (with_reducible refine goL_split (fun _ => ?_) (fun _ => ?_) <;> simp [maxStr]) | with_reducible refine And.intro ?_ ?_ | with_reducible exact okay_rfl rfl | with_reducible assumption | omega)
    have : markT k = 109 :: out := by unfold markT; rw [if_neg (by omega), he]
    exact u_4
def marksInt (k : Int) (n : Nat) : List Int := (List.range n).map fun (i : Nat) => k + i
theorem marksInt_len (k : Int) (n : Nat) : (marksInt k n).length = n := by simp [marksInt]
theorem marksInt_succ (k : Int) (n : Nat) : intsD (marksInt k (n + 1)) = intsD (marksInt k n) ++ [[(fun (x : Int) => (.int .i64 x : D)) ((fun (i : Nat) => k + i) n)]] := by
  simp [marksInt, List.range_succ, intsD]
theorem marksInt_get (k : Int) {n i : Nat} (h : i < n) : (marksInt k n)[i]? = some ((fun (i : Nat) => k + i) i) := by
  simp [marksInt, h]
theorem markIntS_ok (rows : List (List D)) (k : Int) (h0 : ∀ r, r ∈ rows → r.length = 1) (h1 : rows.length ≤ 281474976710656) (h2 : 0 ≤ k ∧ k ≤ 281474976710656) :
    Valid PP GG 25 [.own 0 1 rows, .d (.int .i64 k)] (.d (.int .i64 (k + rows.length))) [some (.own 0 1 (intsD (marksInt k rows.length))), none] := by
  refine cv Tryz.func25 [.d (.int .i64 (k + rows.length))] ?_
  refine u_1 ?_
  refine u_2 ?_
  refine W_block (W_loop (fun n st => ∃ (i : Nat) (R : List (List D)), n = rows.length - i ∧ i ≤ rows.length ∧ R.length = rows.length ∧ (∀ r, r ∈ R → r.length = 1) ∧ R.take i = intsD (marksInt k i) ∧
    st = ⟨[], [(0, .sl 0), (1, .d (.int .i64 (k + i))), (5, .d (.int .i64 i))], [(0, .arr 0 0 1 R)], 1⟩) _ ⟨0, rows, rfl, by omega, rfl, h0, rfl, by simp [gc, closeN, liveA, gcV, gcO, renA, renO, namesAs, namesA, namesO, posn]⟩ ?_)
  rintro n st ⟨i, R, rfl, hi, hl, h3, hR, rfl⟩
  refine u_2 ?_
  refine W_cond rfl (fun h => W_skip ?_) (fun h => W_exit ?_)
  · simp [hl] at h
    obtain ⟨d, hd⟩ := row_one h3 (show i < R.length by omega)
    refine W_seq (W_block (W_seq ?_))
    refine u_7 (Y2 hd hl) ?_
    have hw : IntKind.i64.wrap (k + i + 1) = k + i + 1 := wrap_id (by omega) (by omega)
    refine u_7 hw ?_
    refine u_3 ?_
    exact ⟨rows.length - (i + 1), by omega, i + 1, R.set i [(fun (x : Int) => (.int .i64 x : D)) ((fun (i : Nat) => k + i) i)], rfl, h, by simpa using hl, set_one h3, by rw [take_set_succ (by omega), hR, marksInt_succ],
      by simp [gc, closeN, liveA, gcV, gcO, renA, renO, namesAs, namesA, namesO, posn]; exact ⟨by omega, wrap_id (by omega) (by omega)⟩⟩
  · simp [hl] at h
    have e : R = intsD (marksInt k rows.length) := by
      have : i = rows.length := by omega
      subst this
      rwa [List.take_of_length_le (by omega)] at hR
    have hi' : i = rows.length := by omega
    subst e
    rw [if_pos rfl]
    refine u_1 ?_
    exact u_10 hi'
theorem heldIntS_ok (n : Nat) (k : Int) (h1 : n ≤ 281474976710656) (h2 : 0 ≤ k ∧ k ≤ 281474976710656) :
    Valid PP GG 26 [.d (.slc 1 (intsD (marksInt k n))), .d (.int .i64 k)] (.d (.int .i64 (k + n))) [none, none] := by
  refine cv Tryz.func26 [.d (.int .i64 (k + n))] ?_
  have hl := marksInt_len k n
  refine u_1 ?_
  refine u_2 ?_
  refine W_block (W_loop (fun m st => ∃ (i : Nat), m = n - i ∧ i ≤ n ∧
    st = ⟨[], [(0, .d (.slc 1 (intsD (marksInt k n)))), (1, .d (.int .i64 (k + i))), (5, .d (.int .i64 i))], [], 0⟩) _ ⟨0, rfl, by omega, by simp [gc, closeN, liveA, gcV, gcO, renA, renO, namesAs, namesA, namesO, posn]⟩ ?_)
  rintro m st ⟨i, rfl, hi, rfl⟩
  refine u_2 ?_
  refine W_cond rfl (fun h => W_skip ?_) (fun h => W_exit ?_)
  · simp [hl] at h
    have ha := marksInt_get k h
    refine W_seq (W_block (W_seq (W_seq ?_)))
    refine u_7 (Y2 ha hl) ?_
    refine W_cond rfl (fun h4 => ?_) (fun h4 => W_skip ?_)
    · simp at h4
    have hw : IntKind.i64.wrap (k + i + 1) = k + i + 1 := wrap_id (by omega) (by omega)
    refine u_7 hw ?_
    refine u_3 ?_
    exact ⟨n - (i + 1), by omega, i + 1, rfl, h, by simp [gc, closeN, liveA, gcV, gcO, renA, renO, namesAs, namesA, namesO, posn]; exact ⟨by omega, wrap_id (by omega) (by omega)⟩⟩
  · simp [hl] at h
    have hi' : i = n := by omega
    rw [if_pos rfl]
    refine u_1 ?_
    exact u_10 hi'
def marksString (k : Int) (n : Nat) : List (List UInt8) := (List.range n).map fun (i : Nat) => markT (k + i)
theorem marksString_len (k : Int) (n : Nat) : (marksString k n).length = n := by simp [marksString]
theorem marksString_succ (k : Int) (n : Nat) : strsD (marksString k (n + 1)) = strsD (marksString k n) ++ [[(fun (x : (List UInt8)) => (.str x : D)) ((fun (i : Nat) => markT (k + i)) n)]] := by
  simp [marksString, List.range_succ, strsD]
theorem marksString_get (k : Int) {n i : Nat} (h : i < n) : (marksString k n)[i]? = some ((fun (i : Nat) => markT (k + i)) i) := by
  simp [marksString, h]
theorem markStringS_ok (rows : List (List D)) (k : Int) (h0 : ∀ r, r ∈ rows → r.length = 1) (h1 : rows.length ≤ 281474976710656) (h2 : 0 ≤ k ∧ k ≤ 281474976710656) :
    Valid PP GG 20 [.own 0 1 rows, .d (.int .i64 k)] (.d (.int .i64 (k + rows.length))) [some (.own 0 1 (strsD (marksString k rows.length))), none] := by
  refine cv Tryz.func20 [.d (.int .i64 (k + rows.length))] ?_
  refine u_1 ?_
  refine u_2 ?_
  refine W_block (W_loop (fun n st => ∃ (i : Nat) (R : List (List D)), n = rows.length - i ∧ i ≤ rows.length ∧ R.length = rows.length ∧ (∀ r, r ∈ R → r.length = 1) ∧ R.take i = strsD (marksString k i) ∧
    st = ⟨[], [(0, .sl 0), (1, .d (.int .i64 (k + i))), (5, .d (.int .i64 i))], [(0, .arr 0 0 1 R)], 1⟩) _ ⟨0, rows, rfl, by omega, rfl, h0, rfl, by simp [gc, closeN, liveA, gcV, gcO, renA, renO, namesAs, namesA, namesO, posn]⟩ ?_)
  rintro n st ⟨i, R, rfl, hi, hl, h3, hR, rfl⟩
  refine u_2 ?_
  refine W_cond rfl (fun h => W_skip ?_) (fun h => W_exit ?_)
  · simp [hl] at h
    obtain ⟨d, hd⟩ := row_one h3 (show i < R.length by omega)
    refine W_seq (W_block (W_seq ?_))
    refine u_11 (Y2 hd hl) (Z1 (markText_ok (k + i) (by omega))) ?_
    have hw : IntKind.i64.wrap (k + i + 1) = k + i + 1 := wrap_id (by omega) (by omega)
    refine u_7 hw ?_
    refine u_3 ?_
    exact ⟨rows.length - (i + 1), by omega, i + 1, R.set i [(fun (x : (List UInt8)) => (.str x : D)) ((fun (i : Nat) => markT (k + i)) i)], rfl, h, by simpa using hl, set_one h3, by rw [take_set_succ (by omega), hR, marksString_succ],
      by simp [gc, closeN, liveA, gcV, gcO, renA, renO, namesAs, namesA, namesO, posn]; exact ⟨by omega, wrap_id (by omega) (by omega)⟩⟩
  · simp [hl] at h
    have e : R = strsD (marksString k rows.length) := by
      have : i = rows.length := by omega
      subst this
      rwa [List.take_of_length_le (by omega)] at hR
    have hi' : i = rows.length := by omega
    subst e
    rw [if_pos rfl]
    refine u_1 ?_
    exact u_10 hi'
theorem heldStringS_ok (n : Nat) (k : Int) (h1 : n ≤ 281474976710656) (h2 : 0 ≤ k ∧ k ≤ 281474976710656) :
    Valid PP GG 21 [.d (.slc 1 (strsD (marksString k n))), .d (.int .i64 k)] (.d (.int .i64 (k + n))) [none, none] := by
  refine cv Tryz.func21 [.d (.int .i64 (k + n))] ?_
  have hl := marksString_len k n
  refine u_1 ?_
  refine u_2 ?_
  refine W_block (W_loop (fun m st => ∃ (i : Nat), m = n - i ∧ i ≤ n ∧
    st = ⟨[], [(0, .d (.slc 1 (strsD (marksString k n)))), (1, .d (.int .i64 (k + i))), (5, .d (.int .i64 i))], [], 0⟩) _ ⟨0, rfl, by omega, by simp [gc, closeN, liveA, gcV, gcO, renA, renO, namesAs, namesA, namesO, posn]⟩ ?_)
  rintro m st ⟨i, rfl, hi, rfl⟩
  refine u_2 ?_
  refine W_cond rfl (fun h => W_skip ?_) (fun h => W_exit ?_)
  · simp [hl] at h
    have ha := marksString_get k h
    refine W_seq (W_block (W_seq (W_seq ?_)))
    refine u_12 (Y2 ha hl) (Z1 (markText_ok (k + i) (by omega))) ?_
    refine W_cond rfl (fun h4 => ?_) (fun h4 => W_skip ?_)
    · simp at h4
    have hw : IntKind.i64.wrap (k + i + 1) = k + i + 1 := wrap_id (by omega) (by omega)
    refine u_7 hw ?_
    refine u_3 ?_
    exact ⟨n - (i + 1), by omega, i + 1, rfl, h, by simp [gc, closeN, liveA, gcV, gcO, renA, renO, namesAs, namesA, namesO, posn]; exact ⟨by omega, wrap_id (by omega) (by omega)⟩⟩
  · simp [hl] at h
    have hi' : i = n := by omega
    rw [if_pos rfl]
    refine u_1 ?_
    exact u_10 hi'
theorem u8_all {p : UInt8 → Prop} (h : ∀ n : _root_.Fin 256, p (UInt8.ofNat n.val)) (x : UInt8) : p x := by
  have := h ⟨x.toNat, x.toNat_lt⟩
  simpa using this
def sumBy {α : Type} (f : α → Nat) : List α → Nat
  | [] => 0
  | x :: r => f x + sumBy f r
theorem sumBy_append {α : Type} (f : α → Nat) (a b : List α) : sumBy f (a ++ b) = sumBy f a + sumBy f b := by
  induction a with
  | nil => simp [sumBy]
  | cons x a ih => simp [sumBy, ih]; omega
theorem sumBy_succ {α : Type} {f : α → Nat} {a : List α} {i : Nat} {x : α} (h : a[i]? = some x) : sumBy f (a.take (i + 1)) = sumBy f (a.take i) + f x := by
  rw [List.take_add_one, h, sumBy_append]; simp [sumBy]
theorem sumBy_take {α : Type} (f : α → Nat) (a : List α) (i : Nat) : sumBy f (a.take i) ≤ sumBy f a := by
  conv => rhs; rw [← List.take_append_drop i a, sumBy_append]
  omega
theorem sumBy_le {α : Type} {f g : α → Nat} {c : Nat} (h : ∀ x, f x ≤ c * (1 + g x)) (a : List α) : sumBy f a ≤ c * (a.length + sumBy g a) := by
  induction a with
  | nil => simp [sumBy]
  | cons x a ih =>
    have := h x
    simp only [sumBy, List.length_cons]
    rw [show a.length + 1 + (g x + sumBy g a) = (1 + g x) + (a.length + sumBy g a) by omega, Nat.mul_add]
    omega
theorem sumBy_mem {α : Type} {f : α → Nat} {a : List α} {x : α} (h : x ∈ a) : f x ≤ sumBy f a := by
  induction a with
  | nil => simp at h
  | cons y a ih =>
    rcases List.mem_cons.1 h with rfl | h
    · simp [sumBy]
    · have := ih h; simp [sumBy]; omega
theorem sumBy_get {α : Type} {f : α → Nat} {a : List α} {i : Nat} {x : α} (h : a[i]? = some x) : f x ≤ sumBy f a := sumBy_mem (List.mem_of_getElem? h)
def leftR (c : Nat) (l : Int) : Int := if (c : Int) ≤ l then l - c else -1
theorem leftR_neg {c : Nat} {l : Int} (h0 : 0 ≤ l) (h : leftR c l < 0) : l < c := by unfold leftR at h; split at h <;> omega
theorem leftR_pos {c : Nat} {l : Int} (h : ¬ leftR c l < 0) : (c : Int) ≤ l ∧ leftR c l = l - c := by unfold leftR at h ⊢; split at h <;> simp_all
theorem leftR_yes {c : Nat} {l : Int} (h : (c : Int) ≤ l) : leftR c l = l - c := if_pos h
theorem leftR_no {c : Nat} {l : Int} (h : l < c) : leftR c l = -1 := if_neg (by omega)
def markL {α : Type} (f : α → Int → α) (g : α → Nat) : List α → Int → List α
  | [], _ => []
  | x :: r, k => f x k :: markL f g r (k + (g x : Nat))
theorem markL_len {α : Type} (f : α → Int → α) (g : α → Nat) (a : List α) (k : Int) : (markL f g a k).length = a.length := by
  induction a generalizing k with
  | nil => rfl
  | cons x a ih => simp [markL, ih]
theorem markL_append {α : Type} (f : α → Int → α) (g : α → Nat) (a b : List α) (k : Int) : markL f g (a ++ b) k = markL f g a k ++ markL f g b (k + (sumBy g a : Nat)) := by
  induction a generalizing k with
  | nil => simp [markL, sumBy]
  | cons x a ih =>
    simp only [List.cons_append, markL, ih, sumBy]
    rw [show k + (g x : Int) + (sumBy g a : Nat) = k + ((g x + sumBy g a : Nat) : Int) by push_cast; omega]
theorem markL_succ {α : Type} {f : α → Int → α} {g : α → Nat} {a : List α} {i : Nat} {x : α} (k : Int) (h : a[i]? = some x) : markL f g (a.take (i + 1)) k = markL f g (a.take i) k ++ [f x (k + (sumBy g (a.take i) : Nat))] := by
  rw [List.take_add_one, h]
  show markL f g (a.take i ++ [x]) k = _
  rw [markL_append]; rfl
theorem markL_get {α : Type} {f : α → Int → α} {g : α → Nat} {a : List α} {i : Nat} {x : α} (k : Int) (h : a[i]? = some x) : (markL f g a k)[i]? = some (f x (k + (sumBy g (a.take i) : Nat))) := by
  induction a generalizing i k with
  | nil => simp at h
  | cons y a ih =>
    cases i with
    | zero => simp at h; subst h; simp [markL, sumBy]
    | succ i =>
      simp at h
      have := ih (k + (g y : Nat)) h
      simp only [markL, List.getElem?_cons_succ, this, List.take_succ_cons, sumBy]
      rw [show k + (g y : Int) + (sumBy g (a.take i) : Nat) = k + ((g y + sumBy g (a.take i) : Nat) : Int) by push_cast; omega]
theorem set_get {α : Type} {R : List α} {i : Nat} {d : α} (h : R[i]? = some d) (x : α) : (R.set i x)[i]? = some x := by
  rw [List.getElem?_set_self (List.getElem?_eq_some_iff.1 h).1]
theorem set_mid {α : Type} {P Q : List α} {x y : α} {i : Nat} (h : P.length = i) : (P ++ x :: Q).set i y = (P ++ [y]) ++ Q := by
  subst h; simp
theorem mid_get {α : Type} {P Q : List α} {x : α} {i : Nat} (h : P.length = i) : (P ++ x :: Q)[i]? = some x := by
  subst h; simp
theorem drop_get {α : Type} {a : List α} {i : Nat} {x : α} (h : a[i]? = some x) : a.drop i = x :: a.drop (i + 1) := by
  obtain ⟨h1, rfl⟩ := List.getElem?_eq_some_iff.1 h
  exact List.drop_eq_getElem_cons h1
theorem szStringS_g (a : List (List UInt8)) (l : Int) (hlen : a.length ≤ maxLen) (hx : ∀ x, x ∈ a → x.length ≤ maxLen) (h0 : 0 ≤ l ∧ l ≤ 1048576) :
    Valid PP GG 219 [.d (.slc 1 (strsD a)), .d (.int .i64 l)] (.d (.int .i64 (leftR (a.length + sumBy List.length a) l))) [none, none] := by
  refine cv Tryz.func219 [.d (.int .i64 (leftR (a.length + sumBy List.length a) l))] ?_
  unfold maxLen at hlen hx
  obtain ⟨m, hm⟩ : ∃ z : Int, l - a.length = z := ⟨_, rfl⟩
  have hw : IntKind.i64.wrap (l - a.length) = m := by rw [wrap_id (by omega) (by omega)]; exact hm
  refine u_1 ?_
  refine u_13 hw ?_
  refine u_2 ?_
  refine W_cond rfl (fun h => W_seq ?_) (fun h => W_skip ?_)
  · refine u_3 ?_
    simp at h
    have : leftR (a.length + sumBy List.length a) l = -1 := leftR_no (by omega)
    exact u_4
  simp at h
  refine u_2 ?_
  refine W_block (W_loop (fun n st => ∃ (i : Nat) (v : Int), n = a.length - i ∧ i ≤ a.length ∧ 0 ≤ v ∧ v = m - (sumBy List.length (a.take i) : Nat) ∧
    st = ⟨[], [(0, .d (.slc 1 (strsD a))), (1, .d (.int .i64 v)), (5, .d (.int .i64 i))], [], 0⟩) _ ⟨0, m, rfl, by omega, h, by simp [sumBy], rfl⟩ ?_)
  rintro n st ⟨i, v, rfl, hi, hv, he, rfl⟩
  refine u_2 ?_
  refine W_cond rfl (fun h2 => W_skip ?_) (fun h2 => W_exit ?_)
  · simp at h2
    have ha := List.getElem?_eq_getElem h2
    generalize a[i] = x at ha
    have hs := sumBy_succ (f := List.length) ha
    have ht := sumBy_take List.length a (i + 1)
    have hxl := hx x (List.mem_of_getElem? ha)
    obtain ⟨v2, hv2⟩ : ∃ z : Int, v - x.length = z := ⟨_, rfl⟩
    have hw2 : IntKind.i64.wrap (v - x.length) = v2 := by rw [wrap_id (by omega) (by omega)]; exact hv2
    refine W_seq (W_block (W_seq ?_))
    refine u_7 (Y2 ha hw2) ?_
    refine u_1 ?_
    refine W_cond rfl (fun h3 => W_seq ?_) (fun h3 => W_skip ?_)
    · refine u_3 ?_
      simp at h3
      have : leftR (a.length + sumBy List.length a) l = -1 := leftR_no (by omega)
      exact u_4
    simp at h3
    refine u_3 ?_
    exact ⟨a.length - (i + 1), by omega, i + 1, v2, rfl, h2, by omega, by omega, by simp [gc, closeN, liveA, gcV, gcO, renA, namesAs, namesA]; rw [wrap_id (by omega) (by omega)]⟩
  · simp at h2
    rw [if_pos rfl]
    rw [List.take_of_length_le h2] at he
    refine u_1 ?_
    have : leftR (a.length + sumBy List.length a) l = v := by rw [leftR_yes (by omega)]; omega
    exact u_4
theorem rows7 {R : List (List D)} {i : Nat} (h : ∀ r, r ∈ R → r.length = 7) (hi : i < R.length) : ∃ y0 y1 y2 y3 y4 y5 y6, R[i]? = some [y0, y1, y2, y3, y4, y5, y6] := by
  have h1 := h _ (List.getElem_mem hi)
  have h2 := List.getElem?_eq_getElem hi
  generalize R[i] = r at h1 h2
  match r, h1 with
  | [y0, y1, y2, y3, y4, y5, y6], _ => exact ⟨y0, y1, y2, y3, y4, y5, y6, h2⟩
theorem set7 {R : List (List D)} {i : Nat} {row : List D} (h : ∀ r, r ∈ R → r.length = 7) (hr : row.length = 7) : ∀ r, r ∈ R.set i row → r.length = 7 := by
  intro r hm
  rcases List.mem_or_eq_of_mem_set hm with hm | rfl
  · exact h r hm
  · exact hr
theorem rows3 {R : List (List D)} {i : Nat} (h : ∀ r, r ∈ R → r.length = 3) (hi : i < R.length) : ∃ y0 y1 y2, R[i]? = some [y0, y1, y2] := by
  have h1 := h _ (List.getElem_mem hi)
  have h2 := List.getElem?_eq_getElem hi
  generalize R[i] = r at h1 h2
  match r, h1 with
  | [y0, y1, y2], _ => exact ⟨y0, y1, y2, h2⟩
theorem set3 {R : List (List D)} {i : Nat} {row : List D} (h : ∀ r, r ∈ R → r.length = 3) (hr : row.length = 3) : ∀ r, r ∈ R.set i row → r.length = 3 := by
  intro r hm
  rcases List.mem_or_eq_of_mem_set hm with hm | rfl
  · exact h r hm
  · exact hr
theorem rows6 {R : List (List D)} {i : Nat} (h : ∀ r, r ∈ R → r.length = 6) (hi : i < R.length) : ∃ y0 y1 y2 y3 y4 y5, R[i]? = some [y0, y1, y2, y3, y4, y5] := by
  have h1 := h _ (List.getElem_mem hi)
  have h2 := List.getElem?_eq_getElem hi
  generalize R[i] = r at h1 h2
  match r, h1 with
  | [y0, y1, y2, y3, y4, y5], _ => exact ⟨y0, y1, y2, y3, y4, y5, h2⟩
theorem set6 {R : List (List D)} {i : Nat} {row : List D} (h : ∀ r, r ∈ R → r.length = 6) (hr : row.length = 6) : ∀ r, r ∈ R.set i row → r.length = 6 := by
  intro r hm
  rcases List.mem_or_eq_of_mem_set hm with hm | rfl
  · exact h r hm
  · exact hr
def nameB (b : UInt8) : Bool := decide (97 ≤ b.toNat ∧ b.toNat ≤ 122 ∨ 48 ≤ b.toNat ∧ b.toNat ≤ 57)
def segB (b : UInt8) : Bool := decide ((97 ≤ b.toNat ∧ b.toNat ≤ 122 ∨ 48 ≤ b.toNat ∧ b.toNat ≤ 57) ∨ b.toNat = 45)
def nameOk (s : List UInt8) : Bool := decide (1 ≤ s.length ∧ s.length ≤ 12) && s.all nameB
def segOk (s : List UInt8) : Bool := decide (1 ≤ s.length ∧ s.length ≤ 16) && s.all segB
def headCons (b : UInt8) : List (List UInt8) → List (List UInt8)
  | [] => []
  | p :: ps => (b :: p) :: ps
def headApp (c : List UInt8) : List (List UInt8) → List (List UInt8)
  | [] => []
  | p :: ps => (c ++ p) :: ps
def cutAt (c : UInt8) : List UInt8 → List (List UInt8)
  | [] => [[]]
  | b :: r => if b = c then [] :: cutAt c r else headCons b (cutAt c r)
theorem cutAt_ne (c : UInt8) (s : List UInt8) : ∃ p ps, cutAt c s = p :: ps := by
  induction s with
  | nil => exact ⟨_, _, rfl⟩
  | cons b r ih =>
    obtain ⟨p, ps, h⟩ := ih
    unfold cutAt
    split
    · exact ⟨_, _, rfl⟩
    · rw [h]; exact ⟨_, _, rfl⟩
theorem headApp_nil (c : UInt8) (s : List UInt8) : headApp [] (cutAt c s) = cutAt c s := by
  obtain ⟨p, ps, h⟩ := cutAt_ne c s
  rw [h]; rfl
theorem headApp_hit (c : UInt8) (cur r : List UInt8) : headApp cur (cutAt c (c :: r)) = cur :: headApp [] (cutAt c r) := by
  rw [headApp_nil, cutAt, if_pos rfl]; simp [headApp]
theorem headApp_miss {c b : UInt8} (h : b ≠ c) (cur r : List UInt8) : headApp cur (cutAt c (b :: r)) = headApp (cur ++ [b]) (cutAt c r) := by
  obtain ⟨p, ps, e⟩ := cutAt_ne c r
  rw [cutAt, if_neg h, e]; simp [headCons, headApp]
theorem cutAt_len (c : UInt8) (s : List UInt8) : (cutAt c s).length ≤ s.length + 1 := by
  induction s with
  | nil => simp [cutAt]
  | cons b r ih =>
    unfold cutAt
    split
    · simp; exact ih
    · obtain ⟨p, ps, e⟩ := cutAt_ne c r
      rw [e] at ih ⊢
      simp [headCons] at ih ⊢; omega
theorem cutAt_mem {c : UInt8} : ∀ (s : List UInt8) {p : List UInt8}, p ∈ cutAt c s → p.length ≤ s.length := by
  intro s
  induction s with
  | nil => intro p h; simp [cutAt] at h; subst h; simp
  | cons b r ih =>
    intro p h
    unfold cutAt at h
    split at h
    · rcases List.mem_cons.1 h with rfl | h
      · simp
      · have := ih h; simp; omega
    · obtain ⟨q, qs, e⟩ := cutAt_ne c r
      rw [e] at h ih
      simp only [headCons] at h
      rcases List.mem_cons.1 h with rfl | h
      · have := ih (List.mem_cons_self ..); simp; omega
      · have := ih (List.mem_cons_of_mem _ h); simp; omega
theorem cutAt_all {c : UInt8} {P : UInt8 → Prop} (hc : P c) : ∀ (s : List UInt8), (∀ p, p ∈ cutAt c s → ∀ b, b ∈ p → P b) → ∀ b, b ∈ s → P b := by
  intro s
  induction s with
  | nil => intro _ b h; simp at h
  | cons x r ih =>
    intro h b hb
    unfold cutAt at h
    split at h
    · rename_i e
      rcases List.mem_cons.1 hb with rfl | hb
      · rw [e]; exact hc
      · exact ih (fun p hp => h p (by simp [hp])) b hb
    · obtain ⟨q, qs, e⟩ := cutAt_ne c r
      rw [e] at h ih
      simp only [headCons] at h
      rcases List.mem_cons.1 hb with rfl | hb
      · exact h _ (List.mem_cons_self ..) _ (by simp)
      · refine ih (fun p hp b' hb' => ?_) b hb
        rcases List.mem_cons.1 hp with rfl | hp
        · exact h _ (List.mem_cons_self ..) b' (by simp [hb'])
        · exact h p (by simp [hp]) b' hb'
def segAt (l : List (List UInt8)) (i : Nat) : Bool := match l[i]? with | some s => segOk s || (s == [43]) || (s == [42] && decide (i + 1 = l.length)) | none => true
def globOk (s : List UInt8) : Bool := decide (s.length ≤ 120) && ((List.range (cutAt 47 s).length).all (segAt (cutAt 47 s)) && decide ((cutAt 47 s).length ≤ 8))
def starB (b : UInt8) : Bool := decide (b.toNat = 43 ∨ b.toNat = 42)
def pathOk (s : List UInt8) : Bool := globOk s && !s.any starB
theorem globOk_ascii {s : List UInt8} (h : globOk s = true) : ∀ b, b ∈ s → b.toNat < 128 := by
  simp only [globOk, Bool.and_eq_true, List.all_eq_true, List.mem_range] at h
  refine cutAt_all (c := 47) (P := fun b => b.toNat < 128) (by decide) s fun p hp b hb => ?_
  obtain ⟨i, hi, he⟩ := List.mem_iff_getElem.1 hp
  have := h.2.1 i hi
  unfold segAt at this
  rw [List.getElem?_eq_getElem hi, he] at this
  simp only [Bool.or_eq_true, Bool.and_eq_true, beq_iff_eq] at this
  rcases this with (h1 | h1) | h1
  · unfold segOk at h1
    simp only [Bool.and_eq_true, List.all_eq_true] at h1
    have := h1.2 b hb
    unfold segB at this
    simp at this
    omega
  · subst h1; simp at hb; subst hb; decide
  · obtain ⟨h1, _⟩ := h1; subst h1; simp at hb; subst hb; decide
theorem all_no {α : Type} {p : α → Bool} {l : List α} {i : Nat} {x : α} (h : l[i]? = some x) (hx : p x = false) : l.all p = false := by
  rw [List.all_eq_false]; exact ⟨x, List.mem_of_getElem? h, by simp [hx]⟩
theorem any_yes {α : Type} {p : α → Bool} {l : List α} {i : Nat} {x : α} (h : l[i]? = some x) (hx : p x = true) : l.any p = true := by
  rw [List.any_eq_true]; exact ⟨x, List.mem_of_getElem? h, hx⟩
theorem take_all {α : Type} {p : α → Prop} {l : List α} {i : Nat} {x : α} (ha : l[i]? = some x) (hn : ∀ y, y ∈ l.take i → p y) (hx : p x) : ∀ y, y ∈ l.take (i + 1) → p y := by
  intro y hy
  rw [List.take_add_one, ha] at hy
  rcases List.mem_append.1 hy with hy | hy
  · exact hn y hy
  · simp at hy; subst hy; exact hx
theorem getD_of {s : List UInt8} {i : Nat} {x : UInt8} (h : s[i]? = some x) : s[i]?.getD 0 = x := by rw [h]; rfl
theorem l01Name_ok (s : List UInt8) (hs : s.length ≤ 281474976710656) : Valid PP GG 55 [.d (.str s)] (.d (.bool (nameOk s))) [none] := by
  refine cv Tryz.func55 [.d (.bool (nameOk s))] ?_
  refine u_1 ?_
  refine u_2 ?_
  refine W_block (W_loop (fun n st => ∃ i : Nat, n = s.length - i ∧ i ≤ s.length ∧ (∀ y, y ∈ s.take i → nameB y = true) ∧ st = ⟨[], [(0, .d (.str s)), (3, .d (.int .i64 i))], [], 0⟩) _ ⟨0, rfl, by omega, fun y h => by simp at h, rfl⟩ ?_)
  rintro n st ⟨i, rfl, hi, hn, rfl⟩
  refine u_2 ?_
  refine W_cond rfl (fun h => W_skip ?_) (fun h => W_exit ?_)
  · simp at h
    have ha := List.getElem?_eq_getElem h
    generalize s[i] = x at ha
    have hd := getD_of ha
    refine W_seq (W_block (W_seq ?_))
    refine u_7 hd ?_
    obtain ⟨v, hv⟩ : ∃ v, x.toNat = v := ⟨_, rfl⟩
    have hnb : nameB x = decide (97 ≤ v ∧ v ≤ 122 ∨ 48 ≤ v ∧ v ≤ 57) := by rw [← hv]; rfl
    rw [hv]
    refine u_9 29 (decide (¬ (97 ≤ v ∧ v ≤ 122 ∨ 48 ≤ v ∧ v ≤ 57))) ?_
    refine W_cond rfl (fun h2 => W_seq ?_) (fun h2 => W_skip ?_)
    · rw [h2]
      refine u_3 ?_
      have : nameOk s = false := by
        unfold nameOk
        rw [all_no ha (by rw [hnb]; exact decide_eq_false (of_decide_eq_true h2)), Bool.and_false]
      exact u_4
    rw [h2]
    refine u_3 ?_
    exact ⟨s.length - (i + 1), by omega, i + 1, rfl, h, take_all ha hn (by rw [hnb]; exact decide_eq_true (Decidable.not_not.1 (of_decide_eq_false h2))), by simp [gc, closeN, liveA, gcV, gcO, renA, namesAs, namesA]; rw [wrap_id (by omega) (by omega)]⟩
  · simp at h
    rw [if_pos rfl]
    rw [List.take_of_length_le h] at hn
    refine u_14 (Z1 (l01In_ok s.length 1 12)) ?_
    have : (decide (1 ≤ (s.length : Int)) && decide ((s.length : Int) ≤ 12)) = nameOk s := by
      unfold nameOk
      rw [List.all_eq_true.2 hn, Bool.and_true, Bool.eq_iff_iff]
      simp
      omega
    exact u_4
theorem l01Segment_ok (s : List UInt8) (hs : s.length ≤ 281474976710656) : Valid PP GG 239 [.d (.str s)] (.d (.bool (segOk s))) [none] := by
  refine cv Tryz.func239 [.d (.bool (segOk s))] ?_
  have cl := l01In_ok (GG := GG) s.length 1 16
  obtain ⟨p, hp⟩ : ∃ p, (decide (1 ≤ (s.length : Int)) && decide ((s.length : Int) ≤ 16)) = p := ⟨_, rfl⟩
  have hp2 : segOk s = (p && s.all segB) := by
    unfold segOk
    rw [← hp]
    congr 1
    rw [Bool.eq_iff_iff]; simp; omega
  rw [hp] at cl
  refine u_1 ?_
  refine u_15 (Z1 cl) ?_
  refine W_cond rfl (fun h => W_seq ?_) (fun h => W_skip ?_)
  · simp at h
    subst h
    refine u_3 ?_
    exact u_10 hp2
  simp at h
  subst h
  refine u_2 ?_
  refine W_block (W_loop (fun n st => ∃ i : Nat, n = s.length - i ∧ i ≤ s.length ∧ (∀ y, y ∈ s.take i → segB y = true) ∧ st = ⟨[], [(0, .d (.str s)), (3, .d (.int .i64 i))], [], 0⟩) _ ⟨0, rfl, by omega, fun y h => by simp at h, rfl⟩ ?_)
  rintro n st ⟨i, rfl, hi, hn, rfl⟩
  refine u_2 ?_
  refine W_cond rfl (fun h => W_skip ?_) (fun h => W_exit ?_)
  · simp at h
    have ha := List.getElem?_eq_getElem h
    generalize s[i] = x at ha
    have hd := getD_of ha
    refine W_seq (W_block (W_seq ?_))
    refine u_7 hd ?_
    obtain ⟨v, hv⟩ : ∃ v, x.toNat = v := ⟨_, rfl⟩
    have hnb : segB x = decide ((97 ≤ v ∧ v ≤ 122 ∨ 48 ≤ v ∧ v ≤ 57) ∨ v = 45) := by rw [← hv]; rfl
    rw [hv]
    refine u_9 37 (decide (¬ ((97 ≤ v ∧ v ≤ 122 ∨ 48 ≤ v ∧ v ≤ 57) ∨ v = 45))) ?_
    refine W_cond rfl (fun h2 => W_seq ?_) (fun h2 => W_skip ?_)
    · rw [h2]
      refine u_3 ?_
      have : segOk s = false := by
        rw [hp2, all_no ha (by rw [hnb]; exact decide_eq_false (of_decide_eq_true h2)), Bool.and_false]
      exact u_4
    rw [h2]
    refine u_3 ?_
    exact ⟨s.length - (i + 1), by omega, i + 1, rfl, h, take_all ha hn (by rw [hnb]; exact decide_eq_true (Decidable.not_not.1 (of_decide_eq_false h2))), by simp [gc, closeN, liveA, gcV, gcO, renA, namesAs, namesA]; rw [wrap_id (by omega) (by omega)]⟩
  · simp at h
    rw [if_pos rfl]
    rw [List.take_of_length_le h] at hn
    refine u_1 ?_
    have : segOk s = true := by rw [hp2, List.all_eq_true.2 hn]; rfl
    exact u_4
theorem take_drop_snoc {s : List UInt8} {a i : Nat} {x : UInt8} (h : s[i]? = some x) (ha : a ≤ i) : (s.take (i + 1)).drop a = (s.take i).drop a ++ [x] := by
  have hl := (List.getElem?_eq_some_iff.1 h).1
  rw [List.take_add_one, h, List.drop_append_of_le_length (by rw [List.length_take]; omega)]; rfl
theorem l01Parts_ok (s : List UInt8) (c : UInt8) (hs : s.length ≤ 4194304) : Valid PP GG 238 [.d (.str s), .d (.int .u8 c.toNat)] (.own 0 1 (strsD (cutAt c s))) [none, none] := by
  refine cv Tryz.func238 [.own 0 1 (strsD (cutAt c s))] ?_
  refine u_1 ?_
  refine W_seq (?_)
  apply W_regS
  · intro K hK
    simp [litA]
    repeat' (first | with_reducible exact hK | (with_reducible refine goL_split (fun _ => ?_) (fun _ => ?_) <;> simp [litA]) | with_reducible refine And.intro ?_ ?_ | with_reducible exact okay_rfl rfl | with_reducible assumption | omega)
  refine u_1 ?_
  refine u_2 ?_
  refine W_block (W_loop (fun n st => ∃ (i a : Nat) (o : List (List UInt8)), n = s.length + 1 - i ∧ o.length ≤ i ∧ a ≤ i ∧ (i ≤ s.length ∧ cutAt c s = o ++ headApp ((s.take i).drop a) (cutAt c (s.drop i)) ∨ i = s.length + 1 ∧ cutAt c s = o) ∧
    st = ⟨[], [(0, .d (.str s)), (1, .d (.int .u8 c.toNat)), (5, .sl 0), (6, .d (.int .i64 a)), (7, .d (.int .i64 i))], [(0, .arr 0 0 1 (strsD o))], 1⟩) _ ⟨0, 0, [], rfl, by simp, by omega, .inl ⟨by omega, by simp [headApp_nil]⟩, rfl⟩ ?_)
  rintro n st ⟨i, a, o, rfl, hol, hai, hinv, rfl⟩
  refine u_2 ?_
  refine W_cond rfl (fun h => W_skip ?_) (fun h => W_exit ?_)
  · rw [h]
    simp at h
    obtain ⟨_, hcut⟩ := hinv.resolve_right (by omega)
    clear hinv
    have hw : IntKind.i64.wrap ((i : Int) + 1) = ((i + 1 : Nat) : Int) := by rw [wrap_id (by omega) (by omega)]; omega
    have t1 : ((a : Int)).toNat = a := by omega
    have t2 : ((i : Int)).toNat = i := by omega
    refine W_seq (W_block (W_seq ?_))
    by_cases hend : i = s.length
    · subst hend
      refine W_regB 25 (true) (fun K hK => ?_) ?_
      · simp
        repeat' (first | exact hK _ _ (by clear hK; first | omega | (exact decide_eq_false (by omega)) | (exact decide_eq_true (by omega)) | (exact (decide_eq_true (by omega)).symm) | (exact (decide_eq_false (by omega)).symm) | (exact decide_eq_decide.2 (by omega)) | (simp only [← decide_not]; exact decide_eq_decide.2 (by omega)) | (simp [*]; done) | (simp [*]; omega) | (simp_all; done) | (simp_all; omega) | (rw [Bool.eq_iff_iff]; simp at *; omega)) | (with_reducible refine goL_split (fun _ => ?_) (fun _ => ?_) <;> simp) | with_reducible refine And.intro ?_ ?_ | with_reducible exact okay_rfl rfl | with_reducible assumption | omega)
      refine W_cond rfl (fun h2 => W_seq ?_) (fun h2 => ?_)
      rotate_left
      · cases h2
      refine u_16 ?_
      refine u_7 hw ?_
      refine u_7 hw ?_
      refine ⟨s.length + 1 - (s.length + 1), by omega, s.length + 1, s.length + 1, o ++ [(s.take s.length).drop a], rfl, by simp; omega, by omega, .inr ⟨by omega, ?_⟩, by simp [gc, closeN, liveA, gcV, gcO, renA, renO, namesAs, namesA, namesO, posn, strsD]⟩
      rw [hcut, List.drop_length]
      simp [cutAt, headApp]
    · have ha := List.getElem?_eq_getElem (show i < s.length by omega)
      generalize s[i]'_ = x at ha
      have hd := getD_of ha
      have hdr := drop_get ha
      by_cases hx : x = c
      · subst hx
        refine u_17 hd 25 (true) ?_
        refine W_cond rfl (fun h2 => W_seq ?_) (fun h2 => ?_)
        rotate_left
        · cases h2
        refine u_16 ?_
        refine u_7 hw ?_
        refine u_7 hw ?_
        refine ⟨s.length + 1 - (i + 1), by omega, i + 1, i + 1, o ++ [(s.take i).drop a], rfl, by simp; omega, by omega, .inl ⟨by omega, ?_⟩, by simp [gc, closeN, liveA, gcV, gcO, renA, renO, namesAs, namesA, namesO, posn, strsD]⟩
        have hnil : (s.take (i + 1)).drop (i + 1) = [] := List.drop_eq_nil_of_le (by rw [List.length_take]; omega)
        rw [hcut, hdr, headApp_hit, hnil]
        simp
      · have hx2 : x.toNat ≠ c.toNat := fun e => hx (UInt8.toNat_inj.1 e)
        refine u_17 hd 25 (false) ?_
        refine W_cond rfl (fun h2 => ?_) (fun h2 => W_skip ?_)
        · cases h2
        refine u_7 hw ?_
        refine ⟨s.length + 1 - (i + 1), by omega, i + 1, a, o, rfl, by omega, by omega, .inl ⟨by omega, ?_⟩, by simp [gc, closeN, liveA, gcV, gcO, renA, renO, namesAs, namesA, namesO, posn, strsD]⟩
        rw [hcut, hdr, headApp_miss hx, take_drop_snoc ha hai]
  · simp at h
    obtain ⟨_, hcut⟩ := hinv.resolve_left (by omega)
    rw [if_pos rfl]
    subst hcut
    refine u_1 ?_
    exact u_8
theorem range_no {p : Nat → Bool} {n i : Nat} (h : i < n) (hp : p i = false) : (List.range n).all p = false := by
  rw [List.all_eq_false]; exact ⟨i, by simpa using h, by simp [hp]⟩
theorem s_GlobOk_ok (s : List UInt8) (hs : s.length ≤ 4194304) : Valid PP GG 220 [.d (.str s)] (.d (.bool (globOk s))) [none] := by
  refine cv Tryz.func220 [.d (.bool (globOk s))] ?_
  refine u_1 ?_
  refine u_2 ?_
  refine W_cond rfl (fun h => W_seq ?_) (fun h => W_skip ?_)
  · simp at h
    refine u_3 ?_
    have : globOk s = false := by unfold globOk; rw [decide_eq_false (by omega)]; rfl
    exact u_4
  simp at h
  have cp : Valid PP GG 238 [.d (.str s), .d (.int .u8 47)] (.own 0 1 (strsD (cutAt 47 s))) [none, none] := l01Parts_ok s 47 hs
  have hg : globOk s = ((List.range (cutAt 47 s).length).all (segAt (cutAt 47 s)) && decide ((cutAt 47 s).length ≤ 8)) := by unfold globOk; rw [decide_eq_true (by omega)]; rfl
  have hml : ∀ x, x ∈ cutAt 47 s → x.length ≤ 4194304 := fun x hx => by have := cutAt_mem s hx; omega
  have hll := cutAt_len 47 s
  generalize cutAt 47 s = l at cp hg hml hll
  refine u_14 (Z1 cp) ?_
  refine u_2 ?_
  refine W_block (W_loop (fun n st => ∃ i : Nat, n = l.length - i ∧ i ≤ l.length ∧ (∀ j, j < i → segAt l j = true) ∧ st = ⟨[], [(3, .sl 0), (4, .d (.int .i64 i))], [(0, .arr 0 0 1 (strsD l))], 1⟩) _ ⟨0, rfl, by omega, fun j h => by omega, rfl⟩ ?_)
  rintro n st ⟨i, rfl, hi, hn, rfl⟩
  refine u_2 ?_
  refine W_cond rfl (fun h => W_skip ?_) (fun h => W_exit ?_)
  · simp at h
    have ha := List.getElem?_eq_getElem h
    generalize l[i] = x at ha
    have ct := l01Segment_ok (GG := GG) x (by have := hml x (List.mem_of_getElem? ha); omega)
    have hseg : segAt l i = (segOk x || (x == [43]) || (x == [42] && decide (i + 1 = l.length))) := by unfold segAt; rw [ha]
    obtain ⟨p, hp⟩ : ∃ p, segOk x = p := ⟨_, rfl⟩
    obtain ⟨u, hu⟩ : ∃ p, (x == [43]) = p := ⟨_, rfl⟩
    obtain ⟨w, hw⟩ : ∃ p, (x == [42]) = p := ⟨_, rfl⟩
    rw [hp] at ct
    rw [hp, hu, hw] at hseg
    have hwl : IntKind.i64.wrap ((l.length : Int) - 1) = (l.length : Int) - 1 := wrap_id (by omega) (by omega)
    obtain ⟨z, hz⟩ : ∃ z, decide ((i : Int) = (l.length : Int) - 1) = z := ⟨_, rfl⟩
    have hz2 : decide (i + 1 = l.length) = z := by rw [← hz]; exact decide_eq_decide.2 (by omega)
    rw [hz2] at hseg
    have hzb : ((i : Int) == (l.length : Int) - 1) = z := by rw [← hz]; rfl
    refine W_seq (W_block (W_seq ?_))
    refine W_regB 43 (!(p || u || (w && z))) (fun K hK => ?_) ?_
    · simp [ha, hu, hw, hwl, hzb]
      repeat' (first | exact hK _ _ (by clear hK; first | omega | (exact decide_eq_false (by omega)) | (exact decide_eq_true (by omega)) | (exact (decide_eq_true (by omega)).symm) | (exact (decide_eq_false (by omega)).symm) | (exact decide_eq_decide.2 (by omega)) | (simp only [← decide_not]; exact decide_eq_decide.2 (by omega)) | (simp [*]; done) | (simp [*]; omega) | (simp_all; done) | (simp_all; omega) | (rw [Bool.eq_iff_iff]; simp at *; omega)) | (with_reducible refine callQ (ct) ?_; simp [ha, hu, hw, hwl, hzb]) | (with_reducible refine goL_split (fun _ => ?_) (fun _ => ?_) <;> simp [ha, hu, hw, hwl, hzb]) | with_reducible refine And.intro ?_ ?_ | with_reducible exact okay_rfl rfl | with_reducible assumption | omega)
    refine W_cond rfl (fun h2 => W_seq ?_) (fun h2 => W_skip ?_)
    · refine u_3 ?_
      have : globOk s = false := by
        rw [hg, range_no (i := i) (by omega) (by rw [hseg]; generalize (p || u || (w && z)) = q at h2 ⊢; cases q <;> simp_all), Bool.false_and]
      exact u_4
    refine u_3 ?_
    refine ⟨l.length - (i + 1), by omega, i + 1, rfl, h, fun j hj => ?_, by simp [gc, closeN, liveA, gcV, gcO, renA, renO, namesAs, namesA, namesO, posn]; rw [wrap_id (by omega) (by omega)]⟩
    by_cases e : j = i
    · subst e; rw [hseg]; generalize (p || u || (w && z)) = q at h2 ⊢; cases q <;> simp_all
    · exact hn j (by omega)
  · simp at h
    rw [if_pos rfl]
    have hall : (List.range l.length).all (segAt l) = true := List.all_eq_true.2 fun j hj => hn j (by have := List.mem_range.1 hj; omega)
    refine u_1 ?_
    have : globOk s = decide ((l.length : Int) ≤ 8) := by rw [hg, hall, Bool.true_and]; exact decide_eq_decide.2 (by omega)
    exact u_4
theorem s_PathOk_ok (s : List UInt8) (hs : s.length ≤ 4194304) : Valid PP GG 186 [.d (.str s)] (.d (.bool (pathOk s))) [none] := by
  refine cv Tryz.func186 [.d (.bool (pathOk s))] ?_
  have cg := s_GlobOk_ok (GG := GG) s hs
  have hp : pathOk s = (globOk s && !s.any starB) := rfl
  generalize globOk s = g at cg hp
  refine u_1 ?_
  refine u_15 (Z1 cg) ?_
  refine W_cond rfl (fun h => W_seq ?_) (fun h => W_skip ?_)
  · simp at h
    subst h
    refine u_3 ?_
    exact u_10 hp
  simp at h
  subst h
  refine u_2 ?_
  refine W_block (W_loop (fun n st => ∃ i : Nat, n = s.length - i ∧ i ≤ s.length ∧ (∀ y, y ∈ s.take i → starB y = false) ∧ st = ⟨[], [(0, .d (.str s)), (3, .d (.int .i64 i))], [], 0⟩) _ ⟨0, rfl, by omega, fun y h => by simp at h, rfl⟩ ?_)
  rintro n st ⟨i, rfl, hi, hn, rfl⟩
  refine u_2 ?_
  refine W_cond rfl (fun h => W_skip ?_) (fun h => W_exit ?_)
  · simp at h
    have ha := List.getElem?_eq_getElem h
    generalize s[i] = x at ha
    have hd := getD_of ha
    obtain ⟨v, hv⟩ : ∃ v, x.toNat = v := ⟨_, rfl⟩
    have hnb : starB x = decide (v = 43 ∨ v = 42) := by rw [← hv]; rfl
    refine W_seq (W_block (W_seq ?_))
    refine u_17 (Y2 hd hv) 22 (decide (v = 43 ∨ v = 42)) ?_
    refine W_cond rfl (fun h2 => W_seq ?_) (fun h2 => W_skip ?_)
    · rw [h2]
      refine u_3 ?_
      have : pathOk s = false := by rw [hp, any_yes ha (by rw [hnb]; exact h2)]; rfl
      exact u_4
    rw [h2]
    refine u_3 ?_
    exact ⟨s.length - (i + 1), by omega, i + 1, rfl, h, take_all ha hn (by rw [hnb]; exact h2), by simp [gc, closeN, liveA, gcV, gcO, renA, namesAs, namesA]; rw [wrap_id (by omega) (by omega)]⟩
  · simp at h
    rw [if_pos rfl]
    rw [List.take_of_length_le h] at hn
    refine u_1 ?_
    have : pathOk s = true := by
      have e : s.any starB = false := by rw [List.any_eq_false]; intro y hy; simp [hn y hy]
      rw [hp, e]; rfl
    exact u_4
theorem IndexByte_ok (al : List UInt8) (b : UInt8) : Valid PP GG 224 [.d (.str al), .d (.int .u8 b.toNat)] (.d (.int .i64 (Lib.indexByte al b))) [none, none] := by
  refine lib_new [.str al, .int .u8 b.toNat] ⟨Tryz.f224, Tryz.func224, by kernel_rfl, by kernel_rfl⟩ fun w Fz args hG hFz hl hA => ?_
  have e : args = #[.string ⟨al.toArray⟩, .int .u8 b.toNat] := by
    refine args_eq (l := [.string ⟨al.toArray⟩, .int .u8 b.toNat]) hl fun i v hv => ?_
    match i, hv with
    | 0, hv => cases hv; exact shr_str (hA 0 _ rfl)
    | 1, hv => cases hv; exact shr_int (hA 1 _ rfl)
  subst e
  refine (Go.Proofs.YtdckkojgnkoabaaGreatDoor.Tryz.strings_IndexByte ⟨al.toArray⟩ b.toNat w).mono ?_
  rintro e w' ⟨rfl, rfl⟩
  have hb : ((b.toNat : Int).toNat).toUInt8 = b := by simp
  rw [hb]
  exact ⟨_, Fz, fun _ _ => False, rfl, ⟨rfl, rfl⟩, Nat.le_refl _, fun _ _ => rfl, fun _ _ h => h, fun b o h => ⟨.inl h, hFz b o h⟩, .d _ _ _ (.int _ _) fun _ _ h => h, fun _ _ h => h.elim⟩
theorem ContainsAny_ok (s c : List UInt8) (h1 : s.length < 4294967281) (h2 : c.length < 4294967281) (h3 : ∀ b, b ∈ s → b.toNat < 128) (h4 : ∀ b, b ∈ c → b.toNat < 128) :
    Valid PP GG 241 [.d (.str s), .d (.str c)] (.d (.bool (Lib.containsAny s c))) [none, none] := by
  refine lib_new [.str s, .str c] ⟨Tryz.f241, Tryz.func241, by kernel_rfl, by kernel_rfl⟩ fun w Fz args hG hFz hl hA => ?_
  have e : args = #[.string ⟨s.toArray⟩, .string ⟨c.toArray⟩] := by
    refine args_eq (l := [.string ⟨s.toArray⟩, .string ⟨c.toArray⟩]) hl fun i v hv => ?_
    match i, hv with
    | 0, hv => cases hv; exact shr_str (hA 0 _ rfl)
    | 1, hv => cases hv; exact shr_str (hA 1 _ rfl)
  subst e
  refine (Go.Proofs.YtdckkojgnkoabaaGreatDoor.Tryz.strings_ContainsAny_laid ⟨s.toArray⟩ ⟨c.toArray⟩ w h1 h2 (fun j b hb => h3 b (List.mem_of_getElem? hb)) (fun j b hb => h4 b (List.mem_of_getElem? hb))).mono ?_
  rintro e w' ⟨rfl, hb⟩
  exact ⟨_, Fz, fun _ _ => False, rfl, ⟨hb.os, hb.output⟩, hb.size, fun b h => hb.block b h, fun _ _ h => h, fun b o h => ⟨.inl h, Nat.lt_of_lt_of_le (hFz b o h) hb.size⟩, .d _ _ _ (.bool _) fun _ _ h => h, fun _ _ h => h.elim⟩
theorem splitK_cons {b c : UInt8} (h : b ≠ c) : ∀ (k : Nat) (l : List UInt8), Lib.splitK [c] 0 k (b :: l) = headCons b (Lib.splitK [c] 0 k l) := by
  intro k l
  cases k with
  | zero => rfl
  | succ k =>
    have hp : ([c] : List UInt8).isPrefixOf (b :: l) = false := by simp [List.isPrefixOf, Ne.symm h]
    have hix : Lib.index (b :: l) [c] = if Lib.index l [c] == -1 then -1 else Lib.index l [c] + 1 := by rw [Lib.index, hp]; simp
    unfold Lib.splitK
    rw [hix]
    have hge := Lib.index_ge l [c]
    by_cases hm : Lib.index l [c] = -1
    · rw [hm]; simp [headCons]
    · obtain ⟨j, hj⟩ : ∃ j : Nat, Lib.index l [c] = j := ⟨(Lib.index l [c]).toNat, by omega⟩
      have h1 : ¬ ((j : Int) == -1) = true := fun e => by have := beq_iff_eq.1 e; omega
      have h2 : ¬ ((j : Int) + 1 == -1) = true := fun e => by have := beq_iff_eq.1 e; omega
      rw [hj, if_neg h1, if_neg h1, if_neg h2]
      have e1 : ((j : Int) + 1).toNat = j + 1 := by omega
      simp [headCons, e1]
theorem split_cut (c : UInt8) : ∀ s : List UInt8, Lib.splitK [c] 0 (Lib.count s [c]) s = cutAt c s := by
  intro s
  induction s with
  | nil => rw [Lib.count_one]; rfl
  | cons b r ih =>
    by_cases h : b = c
    · subst h
      have hix : Lib.index (b :: r) [b] = 0 := by rw [Lib.index]; simp [List.isPrefixOf]
      rw [Lib.count_cons_eq, show 1 + Lib.count r [b] = Lib.count r [b] + 1 by omega, Lib.splitK, hix, cutAt, if_pos rfl]
      simp [ih]
    · rw [Lib.count_cons_ne b c r h, splitK_cons h, ih, cutAt, if_neg h]
theorem Split_ok (s : List UInt8) (c : UInt8) [MaxL GG] (hs : s.length < 4294967281) : Valid PP GG 249 [.d (.str s), .d (.str [c])] (.d (.slc 1 (strsD (cutAt c s)))) [none, none] := by
  refine lib_new [.str s, .str [c]] ⟨Tryz.f249, Tryz.func249, by kernel_rfl, by kernel_rfl⟩ fun w Fz args hG hFz hl hA => ?_
  have e : args = #[.string ⟨s.toArray⟩, .string ⟨#[c]⟩] := by
    refine args_eq (l := [.string ⟨s.toArray⟩, .string ⟨#[c]⟩]) hl fun i v hv => ?_
    match i, hv with
    | 0, hv => cases hv; exact shr_str (hA 0 _ rfl)
    | 1, hv => cases hv; exact shr_str (hA 1 _ rfl)
  subst e
  obtain ⟨ob, h1, h2⟩ := hG 0 _ MaxL.h
  cases ob with
  | cells cs t fr =>
    obtain ⟨m, h3⟩ := h2
    refine (Go.Proofs.YtdckkojgnkoabaaGreatDoor.Tryz.strings_Split ⟨s.toArray⟩ ⟨#[c]⟩ m w hs (by unfold World.cell?; simp [h1, h3]) (Nat.le_refl 1)).mono ?_
    rintro e w' ⟨rfl, rfl⟩
    have hcount : Lib.countB ⟨s.toArray⟩ ⟨#[c]⟩ = Lib.count s [c] := rfl
    have hsplit : (Lib.splitB ⟨#[c]⟩ 0 (Lib.countB ⟨s.toArray⟩ ⟨#[c]⟩) ⟨s.toArray⟩).map (·.data.toList) = cutAt c s := by
      rw [Lib.splitB_data, hcount]; exact split_cut c s
    have hlen : (cutAt c s).length = Lib.countB ⟨s.toArray⟩ ⟨#[c]⟩ + 1 := by
      rw [← hsplit, List.length_map, Lib.splitB_all ⟨#[c]⟩ (Nat.le_refl 1) 0 _ _ rfl]
    generalize Lib.countB ⟨s.toArray⟩ ⟨#[c]⟩ = k at hsplit hlen ⊢
    generalize hL : Lib.splitB ⟨#[c]⟩ 0 k ⟨s.toArray⟩ = L at hsplit ⊢
    have hLl : L.length = k + 1 := by rw [← hlen, ← hsplit, List.length_map]
    have hblk : ∀ b, b < w.heap.size → (w.alloc (.cells (L.map Value.string).toArray 9)).heap[b]? = w.heap[b]? := fun b hb => by
      show (w.heap.push _)[b]? = _
      rw [Array.getElem?_push_lt hb, Array.getElem?_eq_getElem hb]
    have hnew : (w.alloc (.cells (L.map Value.string).toArray 9)).heap[w.heap.size]? = some (.cells (L.map Value.string).toArray 9) := by
      show (w.heap.push _)[w.heap.size]? = _
      simp
    have hsz : (w.alloc (.cells (L.map Value.string).toArray 9)).heap.size = w.heap.size + 1 := by
      show (w.heap.push _).size = _
      simp
    refine ⟨_, fun b o => Fz b o ∨ b = w.heap.size, fun _ _ => False, rfl, ⟨rfl, rfl⟩, by omega, hblk, fun _ _ h => .inl h, fun b o h => ?_, .d _ _ _ ?_ fun _ _ h => h, fun _ _ h => h.elim⟩
    · rcases h with h | h
      · exact ⟨.inl h, by have := hFz b o h; omega⟩
      · exact ⟨.inr (by omega), by omega⟩
    · have hrows : (strsD (cutAt c s)).length = k + 1 := by simp [hlen]
      have hget : ∀ (m : Nat) (d : D), (strsD (cutAt c s)).flatten[m]? = some d → ∃ t : ByteArray, L[m]? = some t ∧ d = D.str t.data.toList := by
        intro m d hm
        rw [← hsplit] at hm
        have hf : (strsD (L.map (·.data.toList))).flatten = L.map fun t => D.str t.data.toList := by
          unfold strsD
          generalize L = M
          induction M with
          | nil => rfl
          | cons x M ih => simp only [List.map_cons, List.flatten_cons] at ih ⊢; rw [ih]; rfl
        rw [hf, List.getElem?_map] at hm
        cases ht : L[m]? with
        | none => rw [ht] at hm; cases hm
        | some t => rw [ht] at hm; cases hm; exact ⟨t, rfl, rfl⟩
      have hcell : ∀ (m : Nat) (t : ByteArray), L[m]? = some t → (w.alloc (.cells (L.map Value.string).toArray 9)).cell? (at_ w.heap.size (0 + m)) = some (.string t) := by
        intro m t ht
        unfold World.cell?
        rw [show (at_ w.heap.size (0 + m)).block = w.heap.size from rfl, hnew]
        simp [ht]
      have := Shr.slc (w := w.alloc (.cells (L.map Value.string).toArray 9)) (Fz := fun b o => Fz b o ∨ b = w.heap.size) w.heap.size 0 (k + 1) 1 (strsD (cutAt c s)) (fun m => match L[m]? with | some t => .string t | none => Go.undef)
        (fun r hr => by unfold strsD at hr; obtain ⟨x, _, rfl⟩ := List.mem_map.1 hr; rfl) (by omega)
        (fun m d hm => by
          obtain ⟨t, ht, _⟩ := hget m d hm
          exact ⟨by rw [hcell m t ht, ht], .inr rfl⟩)
        (fun m d hm => by
          obtain ⟨t, ht, rfl⟩ := hget m d hm
          rw [ht]
          exact Shr.str t.data.toList)
      rw [hrows] at this
      exact this
  | _ => exact h2.elim
theorem onlyOf_ok (s al : List UInt8) (hs : s.length ≤ 281474976710656) : Valid PP GG 193 [.d (.str s), .d (.str al)] (.d (.bool (s.all fun b => decide (0 ≤ Lib.indexByte al b)))) [none, none] := by
  refine cv Tryz.func193 [.d (.bool (s.all fun b => decide (0 ≤ Lib.indexByte al b)))] ?_
  refine u_1 ?_
  refine u_2 ?_
  refine W_block (W_loop (fun n st => ∃ i : Nat, n = s.length - i ∧ i ≤ s.length ∧ (∀ y, y ∈ s.take i → decide (0 ≤ Lib.indexByte al y) = true) ∧ st = ⟨[], [(0, .d (.str s)), (1, .d (.str al)), (7, .d (.int .i64 s.length)), (8, .d (.int .i64 i))], [], 0⟩) _ ⟨0, rfl, by omega, fun y h => by simp at h, rfl⟩ ?_)
  rintro n st ⟨i, rfl, hi, hn, rfl⟩
  refine u_1 ?_
  refine W_seq (?_)
  refine W_cond rfl (fun h => W_skip ?_) (fun h => W_exit ?_)
  · simp at h
    have ha := List.getElem?_eq_getElem h
    generalize s[i] = x at ha
    have hd := getD_of ha
    have ci := IndexByte_ok (GG := GG) al x
    refine W_seq (W_block (W_seq ?_))
    refine u_3 ?_
    obtain ⟨v, hv⟩ : ∃ v, Lib.indexByte al x = v := ⟨_, rfl⟩
    rw [hv] at ci
    refine u_18 hd (Z1 ci) ?_
    refine W_cond rfl (fun h2 => W_seq ?_) (fun h2 => W_skip ?_)
    · simp at h2
      refine u_3 ?_
      have : (s.all fun b => decide (0 ≤ Lib.indexByte al b)) = false := all_no ha (decide_eq_false (by omega))
      exact u_4
    simp at h2
    refine u_3 ?_
    exact ⟨s.length - (i + 1), by omega, i + 1, rfl, h, take_all ha hn (decide_eq_true (by omega)), by simp [gc, closeN, liveA, gcV, gcO, renA, namesAs, namesA]; rw [wrap_id (by omega) (by omega)]⟩
  · simp at h
    rw [if_pos rfl]
    rw [List.take_of_length_le h] at hn
    refine u_1 ?_
    have : (s.all fun b => decide (0 ≤ Lib.indexByte al b)) = true := List.all_eq_true.2 hn
    exact u_4
def nameT : List UInt8 := [97, 98, 99, 100, 101, 102, 103, 104, 105, 106, 107, 108, 109, 110, 111, 112, 113, 114, 115, 116, 117, 118, 119, 120, 121, 122, 48, 49, 50, 51, 52, 53, 54, 55, 56, 57]
theorem nameT_is (b : UInt8) : decide (0 ≤ Lib.indexByte nameT b) = nameB b := by
  revert b; exact u8_all (p := fun b => decide (0 ≤ Lib.indexByte nameT b) = nameB b) (by decide +kernel)
theorem segT_is (b : UInt8) : decide (0 ≤ Lib.indexByte (nameT ++ [45]) b) = segB b := by
  revert b; exact u8_all (p := fun b => decide (0 ≤ Lib.indexByte (nameT ++ [45]) b) = segB b) (by decide +kernel)
theorem onlyName_ok (s : List UInt8) (hs : s.length ≤ 281474976710656) : Valid PP GG 193 [.d (.str s), .d (.str nameT)] (.d (.bool (s.all nameB))) [none, none] := by
  have h := onlyOf_ok (GG := GG) s nameT hs
  rw [show (fun b => decide (0 ≤ Lib.indexByte nameT b)) = nameB from funext nameT_is] at h
  exact h
theorem onlySeg_ok (s : List UInt8) (hs : s.length ≤ 281474976710656) : Valid PP GG 193 [.d (.str s), .d (.str (nameT ++ [45]))] (.d (.bool (s.all segB))) [none, none] := by
  have h := onlyOf_ok (GG := GG) s (nameT ++ [45]) hs
  rw [show (fun b => decide (0 ≤ Lib.indexByte (nameT ++ [45]) b)) = segB from funext segT_is] at h
  exact h
theorem isName_ok (s : List UInt8) (hs : s.length ≤ 281474976710656) : Valid PP GG 126 [.d (.str s)] (.d (.bool (nameOk s))) [none] := by
  refine cv Tryz.func126 [.d (.bool (nameOk s))] ?_
  have cw := within_ok (GG := GG) s.length 1 12
  have co := onlyName_ok (GG := GG) s hs
  simp only [nameT] at co
  obtain ⟨p, hp⟩ : ∃ p, (decide (1 ≤ (s.length : Int)) && decide ((s.length : Int) ≤ 12)) = p := ⟨_, rfl⟩
  have hr : nameOk s = (p && s.all nameB) := by
    unfold nameOk
    rw [← hp]
    congr 1
    rw [Bool.eq_iff_iff]; simp; omega
  rw [hp] at cw
  generalize s.all nameB = q at co hr
  refine u_1 ?_
  refine u_19 (Z2 cw co) 2 (p && q) ?_
  exact u_10 hr
theorem isGlob_ok [MaxL GG] (s : List UInt8) (hs : s.length ≤ 4194304) : Valid PP GG 240 [.d (.str s)] (.d (.bool (globOk s))) [none] := by
  refine cv Tryz.func240 [.d (.bool (globOk s))] ?_
  refine u_1 ?_
  refine u_2 ?_
  refine W_cond rfl (fun h => W_seq ?_) (fun h => W_skip ?_)
  · simp at h
    refine u_3 ?_
    have : globOk s = false := by unfold globOk; rw [decide_eq_false (by omega)]; rfl
    exact u_4
  simp at h
  have cp := Split_ok (GG := GG) s 47 (by omega)
  have hg : globOk s = ((List.range (cutAt 47 s).length).all (segAt (cutAt 47 s)) && decide ((cutAt 47 s).length ≤ 8)) := by unfold globOk; rw [decide_eq_true (by omega)]; rfl
  have hml : ∀ x, x ∈ cutAt 47 s → x.length ≤ 4194304 := fun x hx => by have := cutAt_mem s hx; omega
  have hll := cutAt_len 47 s
  generalize cutAt 47 s = l at cp hg hml hll
  refine u_14 (Z1 cp) ?_
  refine u_2 ?_
  refine W_block (W_loop (fun n st => ∃ i : Nat, n = l.length - i ∧ i ≤ l.length ∧ (∀ j, j < i → segAt l j = true) ∧ st = ⟨[], [(3, .d (.slc 1 (strsD l))), (11, .d (.slc 1 (strsD l))), (12, .d (.int .i64 l.length)), (13, .d (.int .i64 i))], [], 0⟩) _ ⟨0, rfl, by omega, fun j h => by omega, rfl⟩ ?_)
  rintro n st ⟨i, rfl, hi, hn, rfl⟩
  refine u_1 ?_
  refine W_seq (?_)
  refine W_cond rfl (fun h => W_skip ?_) (fun h => W_exit ?_)
  · simp at h
    have ha := List.getElem?_eq_getElem h
    generalize l[i] = x at ha
    have hxl := hml x (List.mem_of_getElem? ha)
    have cw := within_ok (GG := GG) x.length 1 16
    have co := onlySeg_ok (GG := GG) x (by omega)
    simp only [nameT, List.cons_append, List.nil_append] at co
    have hseg : segAt l i = (segOk x || (x == [43]) || (x == [42] && decide (i + 1 = l.length))) := by unfold segAt; rw [ha]
    obtain ⟨p, hp⟩ : ∃ p, (decide (1 ≤ (x.length : Int)) && decide ((x.length : Int) ≤ 16)) = p := ⟨_, rfl⟩
    have hr : segOk x = (p && x.all segB) := by
      unfold segOk
      rw [← hp]
      congr 1
      rw [Bool.eq_iff_iff]; simp; omega
    rw [hp] at cw
    obtain ⟨q, hq⟩ : ∃ q, x.all segB = q := ⟨_, rfl⟩
    rw [hq] at co hr
    obtain ⟨u, hu⟩ : ∃ p, (x == [43]) = p := ⟨_, rfl⟩
    obtain ⟨w, hw⟩ : ∃ p, (x == [42]) = p := ⟨_, rfl⟩
    rw [hr, hu, hw] at hseg
    have hwl : IntKind.i64.wrap ((l.length : Int) - 1) = (l.length : Int) - 1 := wrap_id (by omega) (by omega)
    obtain ⟨z, hz⟩ : ∃ z, decide ((i : Int) = (l.length : Int) - 1) = z := ⟨_, rfl⟩
    have hz2 : decide (i + 1 = l.length) = z := by rw [← hz]; exact decide_eq_decide.2 (by omega)
    rw [hz2] at hseg
    have hzb : ((i : Int) == (l.length : Int) - 1) = z := by rw [← hz]; rfl
    have hnext : segAt l i = true → ∀ j, j < i + 1 → segAt l j = true := fun hh j hj => by
      by_cases e : j = i
      · subst e; exact hh
      · exact hn j (by omega)
    refine W_seq (W_block (W_seq ?_))
    refine u_7 ha ?_
    refine W_seq (W_seq (?_))
    refine u_17 (Y4 hu hw hwl hzb) 30 (u || (w && z)) ?_
    refine W_cond rfl (fun h2 => W_exit ?_) (fun h2 => W_skip ?_)
    · rw [if_pos rfl]
      refine u_3 ?_
      exact ⟨l.length - (i + 1), by omega, i + 1, rfl, h, hnext (by rw [hseg]; revert h2; cases u <;> cases w <;> cases z <;> simp), by simp [gc, closeN, liveA, gcV, gcO, renA, renO, namesAs, namesA, namesO, posn]; rw [wrap_id (by omega) (by omega)]⟩
    refine u_19 (Z2 cw co) 39 (!(p && q)) ?_
    refine W_cond rfl (fun h3 => W_seq ?_) (fun h3 => W_skip ?_)
    · refine u_3 ?_
      have : globOk s = false := by
        rw [hg, range_no (i := i) (by omega) (by rw [hseg]; revert h2 h3; cases u <;> cases w <;> cases z <;> cases p <;> cases q <;> simp), Bool.false_and]
      exact u_4
    refine u_3 ?_
    exact ⟨l.length - (i + 1), by omega, i + 1, rfl, h, hnext (by rw [hseg]; revert h3; cases p <;> cases q <;> simp), by simp [gc, closeN, liveA, gcV, gcO, renA, renO, namesAs, namesA, namesO, posn]; rw [wrap_id (by omega) (by omega)]⟩
  · simp at h
    rw [if_pos rfl]
    have hall : (List.range l.length).all (segAt l) = true := List.all_eq_true.2 fun j hj => hn j (by have := List.mem_range.1 hj; omega)
    refine u_1 ?_
    have : globOk s = decide ((l.length : Int) ≤ 8) := by rw [hg, hall, Bool.true_and]; exact decide_eq_decide.2 (by omega)
    exact u_4
theorem containsAny_star : ∀ s : List UInt8, Lib.containsAny s [43, 42] = s.any starB := by
  have hb : ∀ b : UInt8, ([43, 42] : List UInt8).contains b = starB b := u8_all (p := fun b => ([43, 42] : List UInt8).contains b = starB b) (by decide +kernel)
  intro s
  unfold Lib.containsAny
  induction s with
  | nil => rfl
  | cons b r ih =>
    have hge := Lib.indexAny_ge [43, 42] r
    rw [Lib.indexAny, hb, List.any_cons, ← ih]
    cases starB b with
    | true => rfl
    | false =>
      simp only [Bool.false_eq_true, if_false, Bool.false_or]
      by_cases hm : Lib.indexAny r [43, 42] = -1
      · rw [hm]; rfl
      · rw [if_neg (fun e => hm (beq_iff_eq.1 e))]
        exact decide_eq_decide.2 (by omega)
theorem isPath_ok [MaxL GG] (s : List UInt8) (hs : s.length ≤ 4194304) : Valid PP GG 223 [.d (.str s)] (.d (.bool (pathOk s))) [none] := by
  refine cv Tryz.func223 [.d (.bool (pathOk s))] ?_
  have cg := isGlob_ok (GG := GG) s hs
  have hp : pathOk s = (globOk s && !s.any starB) := rfl
  have hasc := globOk_ascii (s := s)
  generalize globOk s = g at cg hp hasc
  cases g with
  | false =>
    refine u_1 ?_
    refine u_19 (Z1 cg) 2 (false) ?_
    exact u_10 hp
  | true =>
    have cc := ContainsAny_ok (GG := GG) s [43, 42] (by omega) (by simp) (hasc rfl) (by decide)
    rw [containsAny_star] at cc
    generalize s.any starB = q at cc hp
    refine u_1 ?_
    refine u_19 (Z2 cg cc) 2 (!q) ?_
    exact u_10 hp
def inB (x lo hi : Int) : Bool := decide (lo ≤ x) && decide (x ≤ hi)
theorem intsD_snoc (l : List Int) (x : Int) : intsD (l ++ [x]) = intsD l ++ [[.int .i64 x]] := by simp [intsD]
theorem inB_true {x lo hi : Int} (h : inB x lo hi = true) : lo ≤ x ∧ x ≤ hi := by
  simp only [inB, Bool.and_eq_true, decide_eq_true_eq] at h; exact h
structure GToken where
  fId : Int
  fParent : Int
  fNames : List (List UInt8)
  fMade : Int
  fEnds : Int
  fLimit : Int
  fUses : Int
  deriving DecidableEq
@[simp] abbrev GToken.row (x : GToken) : List D := [.int .i64 x.fId, .int .i64 x.fParent, .slc 1 (strsD x.fNames), .int .i64 x.fMade, .int .i64 x.fEnds, .int .i64 x.fLimit, .int .i64 x.fUses]
@[simp] abbrev GToken.c (x : GToken) : List C := [.d (.int .i64 x.fId), .d (.int .i64 x.fParent), .d (.slc 1 (strsD x.fNames)), .d (.int .i64 x.fMade), .d (.int .i64 x.fEnds), .d (.int .i64 x.fLimit), .d (.int .i64 x.fUses)]
@[simp] abbrev GToken.o (x : GToken) : List C := [.d (.int .i64 x.fId), .d (.int .i64 x.fParent), .own 0 1 (strsD x.fNames), .d (.int .i64 x.fMade), .d (.int .i64 x.fEnds), .d (.int .i64 x.fLimit), .d (.int .i64 x.fUses)]
def rToken (l : List GToken) : List (List D) := l.map GToken.row
@[simp] theorem rToken_len (l : List GToken) : (rToken l).length = l.length := by simp [rToken]
@[simp] theorem rToken_get (l : List GToken) (i : Nat) : (rToken l)[i]? = (l[i]?).map GToken.row := by simp [rToken]
theorem rToken_app (a b : List GToken) : rToken (a ++ b) = rToken a ++ rToken b := by simp [rToken]
def GToken.cost (x : GToken) : Nat := (x.fNames.length + sumBy List.length x.fNames)
def GToken.ok (x : GToken) : Prop := int64 x.fId ∧ int64 x.fParent ∧ x.fNames.length ≤ maxLen ∧ (∀ y, y ∈ x.fNames → y.length ≤ maxLen) ∧ int64 x.fMade ∧ int64 x.fEnds ∧ int64 x.fLimit ∧ int64 x.fUses
def GToken.mark (x : GToken) (k : Int) : GToken := { fId := k, fParent := k + 1, fNames := marksString (k + 1 + 1) x.fNames.length, fMade := k + 1 + 1 + ((x.fNames.length : Nat) : Int), fEnds := k + 1 + 1 + ((x.fNames.length : Nat) : Int) + 1, fLimit := k + 1 + 1 + ((x.fNames.length : Nat) : Int) + 1 + 1, fUses := k + 1 + 1 + ((x.fNames.length : Nat) : Int) + 1 + 1 + 1 }
def GToken.marks (x : GToken) : Nat := 1 + 1 + x.fNames.length + 1 + 1 + 1 + 1
def GToken.markIn (x : GToken) (k : Int) : GToken := { fId := x.fId, fParent := x.fParent, fNames := marksString (k) x.fNames.length, fMade := x.fMade, fEnds := x.fEnds, fLimit := x.fLimit, fUses := x.fUses }
def GToken.marksIn (x : GToken) : Nat := x.fNames.length
theorem GToken.marks_fix (x : GToken) : x.marks ≤ 6 + 32 * x.cost := by
  unfold GToken.marks GToken.cost
  omega
theorem GToken.marks_le (x : GToken) : x.marks ≤ 32 * (1 + x.cost) := by
  have := x.marks_fix
  omega
structure GForest where
  fTokens : List GToken
  deriving DecidableEq
@[simp] abbrev GForest.row (x : GForest) : List D := [.slc 7 (rToken x.fTokens)]
@[simp] abbrev GForest.c (x : GForest) : List C := [.d (.slc 7 (rToken x.fTokens))]
@[simp] abbrev GForest.o (x : GForest) : List C := [.own 1 7 (rToken x.fTokens)]
def GForest.cost (x : GForest) : Nat := (x.fTokens.length + sumBy GToken.cost x.fTokens)
def GForest.ok (x : GForest) : Prop := x.fTokens.length ≤ maxLen ∧ (∀ y, y ∈ x.fTokens → y.ok)
def GForest.mark (x : GForest) (k : Int) : GForest := { fTokens := markL GToken.mark GToken.marks x.fTokens (k) }
def GForest.marks (x : GForest) : Nat := sumBy GToken.marks x.fTokens
def GForest.markIn (x : GForest) (k : Int) : GForest := { fTokens := markL GToken.mark GToken.marks x.fTokens (k) }
def GForest.marksIn (x : GForest) : Nat := sumBy GToken.marks x.fTokens
theorem GForest.marks_fix (x : GForest) : x.marks ≤ 0 + 32 * x.cost := by
  have := sumBy_le GToken.marks_le x.fTokens
  unfold GForest.marks GForest.cost
  omega
theorem GForest.marks_le (x : GForest) : x.marks ≤ 32 * (1 + x.cost) := by
  have := x.marks_fix
  omega
structure GLease where
  fId : Int
  fToken : Int
  fPath : List UInt8
  fMade : Int
  fEnds : Int
  fLimit : Int
  deriving DecidableEq
@[simp] abbrev GLease.row (x : GLease) : List D := [.int .i64 x.fId, .int .i64 x.fToken, .str x.fPath, .int .i64 x.fMade, .int .i64 x.fEnds, .int .i64 x.fLimit]
@[simp] abbrev GLease.c (x : GLease) : List C := [.d (.int .i64 x.fId), .d (.int .i64 x.fToken), .d (.str x.fPath), .d (.int .i64 x.fMade), .d (.int .i64 x.fEnds), .d (.int .i64 x.fLimit)]
@[simp] abbrev GLease.o (x : GLease) : List C := [.d (.int .i64 x.fId), .d (.int .i64 x.fToken), .d (.str x.fPath), .d (.int .i64 x.fMade), .d (.int .i64 x.fEnds), .d (.int .i64 x.fLimit)]
def rLease (l : List GLease) : List (List D) := l.map GLease.row
@[simp] theorem rLease_len (l : List GLease) : (rLease l).length = l.length := by simp [rLease]
@[simp] theorem rLease_get (l : List GLease) (i : Nat) : (rLease l)[i]? = (l[i]?).map GLease.row := by simp [rLease]
theorem rLease_app (a b : List GLease) : rLease (a ++ b) = rLease a ++ rLease b := by simp [rLease]
theorem rLease_row (l : List GLease) : ∀ r, r ∈ rLease l → r.length = 6 := by intro r h; simp only [rLease, List.mem_map] at h; obtain ⟨x, _, rfl⟩ := h; rfl
def GLease.cost (x : GLease) : Nat := x.fPath.length
def GLease.ok (x : GLease) : Prop := int64 x.fId ∧ int64 x.fToken ∧ x.fPath.length ≤ maxLen ∧ int64 x.fMade ∧ int64 x.fEnds ∧ int64 x.fLimit
def GLease.mark (x : GLease) (k : Int) : GLease := { fId := k, fToken := k + 1, fPath := markT (k + 1 + 1), fMade := k + 1 + 1 + 1, fEnds := k + 1 + 1 + 1 + 1, fLimit := k + 1 + 1 + 1 + 1 + 1 }
def GLease.marks (x : GLease) : Nat := 1 + 1 + 1 + 1 + 1 + 1
theorem GLease.marks_fix (x : GLease) : x.marks ≤ 6 + 32 * x.cost := by
  unfold GLease.marks GLease.cost
  omega
theorem GLease.marks_le (x : GLease) : x.marks ≤ 32 * (1 + x.cost) := by
  have := x.marks_fix
  omega
structure GBook where
  fLeases : List GLease
  deriving DecidableEq
@[simp] abbrev GBook.row (x : GBook) : List D := [.slc 6 (rLease x.fLeases)]
@[simp] abbrev GBook.c (x : GBook) : List C := [.d (.slc 6 (rLease x.fLeases))]
@[simp] abbrev GBook.o (x : GBook) : List C := [.own 0 6 (rLease x.fLeases)]
def GBook.cost (x : GBook) : Nat := (x.fLeases.length + sumBy GLease.cost x.fLeases)
def GBook.ok (x : GBook) : Prop := x.fLeases.length ≤ maxLen ∧ (∀ y, y ∈ x.fLeases → y.ok)
def GBook.mark (x : GBook) (k : Int) : GBook := { fLeases := markL GLease.mark GLease.marks x.fLeases (k) }
def GBook.marks (x : GBook) : Nat := sumBy GLease.marks x.fLeases
def GBook.markIn (x : GBook) (k : Int) : GBook := { fLeases := markL GLease.mark GLease.marks x.fLeases (k) }
def GBook.marksIn (x : GBook) : Nat := sumBy GLease.marks x.fLeases
theorem GBook.marks_fix (x : GBook) : x.marks ≤ 0 + 32 * x.cost := by
  have := sumBy_le GLease.marks_le x.fLeases
  unfold GBook.marks GBook.cost
  omega
theorem GBook.marks_le (x : GBook) : x.marks ≤ 32 * (1 + x.cost) := by
  have := x.marks_fix
  omega
structure GUser where
  fName : List UInt8
  fPass : List UInt8
  deriving DecidableEq
@[simp] abbrev GUser.row (x : GUser) : List D := [.str x.fName, .str x.fPass]
@[simp] abbrev GUser.c (x : GUser) : List C := [.d (.str x.fName), .d (.str x.fPass)]
@[simp] abbrev GUser.o (x : GUser) : List C := [.d (.str x.fName), .d (.str x.fPass)]
def rUser (l : List GUser) : List (List D) := l.map GUser.row
@[simp] theorem rUser_len (l : List GUser) : (rUser l).length = l.length := by simp [rUser]
@[simp] theorem rUser_get (l : List GUser) (i : Nat) : (rUser l)[i]? = (l[i]?).map GUser.row := by simp [rUser]
theorem rUser_app (a b : List GUser) : rUser (a ++ b) = rUser a ++ rUser b := by simp [rUser]
theorem rUser_row (l : List GUser) : ∀ r, r ∈ rUser l → r.length = 2 := by intro r h; simp only [rUser, List.mem_map] at h; obtain ⟨x, _, rfl⟩ := h; rfl
def GUser.cost (x : GUser) : Nat := x.fName.length + x.fPass.length
def GUser.ok (x : GUser) : Prop := x.fName.length ≤ maxLen ∧ x.fPass.length ≤ maxLen
def GUser.mark (x : GUser) (k : Int) : GUser := { fName := markT (k), fPass := markT (k + 1) }
def GUser.marks (x : GUser) : Nat := 1 + 1
theorem GUser.marks_fix (x : GUser) : x.marks ≤ 2 + 32 * x.cost := by
  unfold GUser.marks GUser.cost
  omega
theorem GUser.marks_le (x : GUser) : x.marks ≤ 32 * (1 + x.cost) := by
  have := x.marks_fix
  omega
structure GFar where
  fUsers : List GUser
  fFail : Int
  fMade : Int
  deriving DecidableEq
@[simp] abbrev GFar.row (x : GFar) : List D := [.slc 2 (rUser x.fUsers), .int .i64 x.fFail, .int .i64 x.fMade]
@[simp] abbrev GFar.c (x : GFar) : List C := [.d (.slc 2 (rUser x.fUsers)), .d (.int .i64 x.fFail), .d (.int .i64 x.fMade)]
@[simp] abbrev GFar.o (x : GFar) : List C := [.own 0 2 (rUser x.fUsers), .d (.int .i64 x.fFail), .d (.int .i64 x.fMade)]
def GFar.cost (x : GFar) : Nat := (x.fUsers.length + sumBy GUser.cost x.fUsers)
def GFar.ok (x : GFar) : Prop := x.fUsers.length ≤ maxLen ∧ (∀ y, y ∈ x.fUsers → y.ok) ∧ int64 x.fFail ∧ int64 x.fMade
def GFar.mark (x : GFar) (k : Int) : GFar := { fUsers := markL GUser.mark GUser.marks x.fUsers (k), fFail := k + ((sumBy GUser.marks x.fUsers : Nat) : Int), fMade := k + ((sumBy GUser.marks x.fUsers : Nat) : Int) + 1 }
def GFar.marks (x : GFar) : Nat := sumBy GUser.marks x.fUsers + 1 + 1
def GFar.markIn (x : GFar) (k : Int) : GFar := { fUsers := markL GUser.mark GUser.marks x.fUsers (k), fFail := x.fFail, fMade := x.fMade }
def GFar.marksIn (x : GFar) : Nat := sumBy GUser.marks x.fUsers
theorem GFar.marks_fix (x : GFar) : x.marks ≤ 2 + 32 * x.cost := by
  have := sumBy_le GUser.marks_le x.fUsers
  unfold GFar.marks GFar.cost
  omega
theorem GFar.marks_le (x : GFar) : x.marks ≤ 32 * (1 + x.cost) := by
  have := x.marks_fix
  omega
structure GJob where
  fName : List UInt8
  fAt : Int
  fTries : Int
  deriving DecidableEq
@[simp] abbrev GJob.row (x : GJob) : List D := [.str x.fName, .int .i64 x.fAt, .int .i64 x.fTries]
@[simp] abbrev GJob.c (x : GJob) : List C := [.d (.str x.fName), .d (.int .i64 x.fAt), .d (.int .i64 x.fTries)]
@[simp] abbrev GJob.o (x : GJob) : List C := [.d (.str x.fName), .d (.int .i64 x.fAt), .d (.int .i64 x.fTries)]
def rJob (l : List GJob) : List (List D) := l.map GJob.row
@[simp] theorem rJob_len (l : List GJob) : (rJob l).length = l.length := by simp [rJob]
@[simp] theorem rJob_get (l : List GJob) (i : Nat) : (rJob l)[i]? = (l[i]?).map GJob.row := by simp [rJob]
theorem rJob_app (a b : List GJob) : rJob (a ++ b) = rJob a ++ rJob b := by simp [rJob]
theorem rJob_row (l : List GJob) : ∀ r, r ∈ rJob l → r.length = 3 := by intro r h; simp only [rJob, List.mem_map] at h; obtain ⟨x, _, rfl⟩ := h; rfl
def GJob.cost (x : GJob) : Nat := x.fName.length
def GJob.ok (x : GJob) : Prop := x.fName.length ≤ maxLen ∧ int64 x.fAt ∧ int64 x.fTries
def GJob.mark (x : GJob) (k : Int) : GJob := { fName := markT (k), fAt := k + 1, fTries := k + 1 + 1 }
def GJob.marks (x : GJob) : Nat := 1 + 1 + 1
theorem GJob.marks_fix (x : GJob) : x.marks ≤ 3 + 32 * x.cost := by
  unfold GJob.marks GJob.cost
  omega
theorem GJob.marks_le (x : GJob) : x.marks ≤ 32 * (1 + x.cost) := by
  have := x.marks_fix
  omega
structure GQueue where
  fJobs : List GJob
  deriving DecidableEq
@[simp] abbrev GQueue.row (x : GQueue) : List D := [.slc 3 (rJob x.fJobs)]
@[simp] abbrev GQueue.c (x : GQueue) : List C := [.d (.slc 3 (rJob x.fJobs))]
@[simp] abbrev GQueue.o (x : GQueue) : List C := [.own 0 3 (rJob x.fJobs)]
def GQueue.cost (x : GQueue) : Nat := (x.fJobs.length + sumBy GJob.cost x.fJobs)
def GQueue.ok (x : GQueue) : Prop := x.fJobs.length ≤ maxLen ∧ (∀ y, y ∈ x.fJobs → y.ok)
def GQueue.mark (x : GQueue) (k : Int) : GQueue := { fJobs := markL GJob.mark GJob.marks x.fJobs (k) }
def GQueue.marks (x : GQueue) : Nat := sumBy GJob.marks x.fJobs
def GQueue.markIn (x : GQueue) (k : Int) : GQueue := { fJobs := markL GJob.mark GJob.marks x.fJobs (k) }
def GQueue.marksIn (x : GQueue) : Nat := sumBy GJob.marks x.fJobs
theorem GQueue.marks_fix (x : GQueue) : x.marks ≤ 0 + 32 * x.cost := by
  have := sumBy_le GJob.marks_le x.fJobs
  unfold GQueue.marks GQueue.cost
  omega
theorem GQueue.marks_le (x : GQueue) : x.marks ≤ 32 * (1 + x.cost) := by
  have := x.marks_fix
  omega
structure GOwned where
  fLease : Int
  fName : List UInt8
  deriving DecidableEq
@[simp] abbrev GOwned.row (x : GOwned) : List D := [.int .i64 x.fLease, .str x.fName]
@[simp] abbrev GOwned.c (x : GOwned) : List C := [.d (.int .i64 x.fLease), .d (.str x.fName)]
@[simp] abbrev GOwned.o (x : GOwned) : List C := [.d (.int .i64 x.fLease), .d (.str x.fName)]
def rOwned (l : List GOwned) : List (List D) := l.map GOwned.row
@[simp] theorem rOwned_len (l : List GOwned) : (rOwned l).length = l.length := by simp [rOwned]
@[simp] theorem rOwned_get (l : List GOwned) (i : Nat) : (rOwned l)[i]? = (l[i]?).map GOwned.row := by simp [rOwned]
theorem rOwned_app (a b : List GOwned) : rOwned (a ++ b) = rOwned a ++ rOwned b := by simp [rOwned]
theorem rOwned_row (l : List GOwned) : ∀ r, r ∈ rOwned l → r.length = 2 := by intro r h; simp only [rOwned, List.mem_map] at h; obtain ⟨x, _, rfl⟩ := h; rfl
def GOwned.cost (x : GOwned) : Nat := x.fName.length
def GOwned.ok (x : GOwned) : Prop := int64 x.fLease ∧ x.fName.length ≤ maxLen
def GOwned.mark (x : GOwned) (k : Int) : GOwned := { fLease := k, fName := markT (k + 1) }
def GOwned.marks (x : GOwned) : Nat := 1 + 1
theorem GOwned.marks_fix (x : GOwned) : x.marks ≤ 2 + 32 * x.cost := by
  unfold GOwned.marks GOwned.cost
  omega
theorem GOwned.marks_le (x : GOwned) : x.marks ≤ 32 * (1 + x.cost) := by
  have := x.marks_fix
  omega
structure GWorld where
  fNow : Int
  fNext : Int
  fLost : Int
  fForest : GForest
  fBook : GBook
  fFar : GFar
  fQueue : GQueue
  fOwned : List GOwned
  deriving DecidableEq
@[simp] abbrev GWorld.row (x : GWorld) : List D := [.int .i64 x.fNow, .int .i64 x.fNext, .int .i64 x.fLost, .slc 7 (rToken x.fForest.fTokens), .slc 6 (rLease x.fBook.fLeases), .slc 2 (rUser x.fFar.fUsers), .int .i64 x.fFar.fFail, .int .i64 x.fFar.fMade, .slc 3 (rJob x.fQueue.fJobs), .slc 2 (rOwned x.fOwned)]
@[simp] abbrev GWorld.c (x : GWorld) : List C := [.d (.int .i64 x.fNow), .d (.int .i64 x.fNext), .d (.int .i64 x.fLost), .d (.slc 7 (rToken x.fForest.fTokens)), .d (.slc 6 (rLease x.fBook.fLeases)), .d (.slc 2 (rUser x.fFar.fUsers)), .d (.int .i64 x.fFar.fFail), .d (.int .i64 x.fFar.fMade), .d (.slc 3 (rJob x.fQueue.fJobs)), .d (.slc 2 (rOwned x.fOwned))]
@[simp] abbrev GWorld.o (x : GWorld) : List C := [.d (.int .i64 x.fNow), .d (.int .i64 x.fNext), .d (.int .i64 x.fLost), .own 1 7 (rToken x.fForest.fTokens), .own 0 6 (rLease x.fBook.fLeases), .own 0 2 (rUser x.fFar.fUsers), .d (.int .i64 x.fFar.fFail), .d (.int .i64 x.fFar.fMade), .own 0 3 (rJob x.fQueue.fJobs), .own 0 2 (rOwned x.fOwned)]
def GWorld.cost (x : GWorld) : Nat := x.fForest.cost + x.fBook.cost + x.fFar.cost + x.fQueue.cost + (x.fOwned.length + sumBy GOwned.cost x.fOwned)
def GWorld.ok (x : GWorld) : Prop := int64 x.fNow ∧ int64 x.fNext ∧ int64 x.fLost ∧ x.fForest.ok ∧ x.fBook.ok ∧ x.fFar.ok ∧ x.fQueue.ok ∧ x.fOwned.length ≤ maxLen ∧ (∀ y, y ∈ x.fOwned → y.ok)
def GWorld.mark (x : GWorld) (k : Int) : GWorld := { fNow := k, fNext := k + 1, fLost := k + 1 + 1, fForest := x.fForest.mark (k + 1 + 1 + 1), fBook := x.fBook.mark (k + 1 + 1 + 1 + ((x.fForest.marks : Nat) : Int)), fFar := x.fFar.mark (k + 1 + 1 + 1 + ((x.fForest.marks : Nat) : Int) + ((x.fBook.marks : Nat) : Int)), fQueue := x.fQueue.mark (k + 1 + 1 + 1 + ((x.fForest.marks : Nat) : Int) + ((x.fBook.marks : Nat) : Int) + ((x.fFar.marks : Nat) : Int)), fOwned := markL GOwned.mark GOwned.marks x.fOwned (k + 1 + 1 + 1 + ((x.fForest.marks : Nat) : Int) + ((x.fBook.marks : Nat) : Int) + ((x.fFar.marks : Nat) : Int) + ((x.fQueue.marks : Nat) : Int)) }
def GWorld.marks (x : GWorld) : Nat := 1 + 1 + 1 + x.fForest.marks + x.fBook.marks + x.fFar.marks + x.fQueue.marks + sumBy GOwned.marks x.fOwned
def GWorld.markIn (x : GWorld) (k : Int) : GWorld := { fNow := x.fNow, fNext := x.fNext, fLost := x.fLost, fForest := x.fForest.markIn (k), fBook := x.fBook.markIn (k + ((x.fForest.marksIn : Nat) : Int)), fFar := x.fFar.markIn (k + ((x.fForest.marksIn : Nat) : Int) + ((x.fBook.marksIn : Nat) : Int)), fQueue := x.fQueue.markIn (k + ((x.fForest.marksIn : Nat) : Int) + ((x.fBook.marksIn : Nat) : Int) + ((x.fFar.marksIn : Nat) : Int)), fOwned := markL GOwned.mark GOwned.marks x.fOwned (k + ((x.fForest.marksIn : Nat) : Int) + ((x.fBook.marksIn : Nat) : Int) + ((x.fFar.marksIn : Nat) : Int) + ((x.fQueue.marksIn : Nat) : Int)) }
def GWorld.marksIn (x : GWorld) : Nat := x.fForest.marksIn + x.fBook.marksIn + x.fFar.marksIn + x.fQueue.marksIn + sumBy GOwned.marks x.fOwned
theorem GWorld.marks_fix (x : GWorld) : x.marks ≤ 5 + 32 * x.cost := by
  have := GForest.marks_fix x.fForest
  have := GBook.marks_fix x.fBook
  have := GFar.marks_fix x.fFar
  have := GQueue.marks_fix x.fQueue
  have := sumBy_le GOwned.marks_le x.fOwned
  unfold GWorld.marks GWorld.cost
  omega
theorem GWorld.marks_le (x : GWorld) : x.marks ≤ 32 * (1 + x.cost) := by
  have := x.marks_fix
  omega
theorem szToken_g (x : GToken) (l : Int) (hx : x.ok) (h0 : 0 ≤ l ∧ l ≤ 1048576) : Valid PP GG 181 [.agg x.c, .d (.int .i64 l)] (.d (.int .i64 (leftR x.cost l))) [none, none] := by
  refine cv Tryz.func181 [.d (.int .i64 (leftR x.cost l))] ?_
  have hco : x.cost = (x.fNames.length + sumBy List.length x.fNames) := rfl
  unfold GToken.ok maxLen at hx
  obtain ⟨okId0, okParent0, okNames0, okNames1, okMade0, okEnds0, okLimit0, okUses0⟩ := hx
  generalize x.cost = co at hco
  refine u_1 ?_
  have ct := szStringS_g (GG := GG) x.fNames l (by unfold maxLen; omega) (by unfold maxLen; exact okNames1) ⟨by omega, by omega⟩
  obtain ⟨l1, el1⟩ : ∃ z : Int, leftR (x.fNames.length + sumBy List.length x.fNames) l = z := ⟨_, rfl⟩
  rw [el1] at ct
  refine u_14 (Z1 ct) ?_
  clear ct
  refine u_2 ?_
  refine W_cond rfl (fun hh0 => W_seq ?_) (fun hh0 => W_skip ?_)
  · refine u_3 ?_
    simp at hh0
    rw [← el1] at hh0
    have hn := leftR_neg (by omega) hh0
    have : leftR co l = -1 := leftR_no (by omega)
    exact u_4
  simp at hh0
  rw [← el1] at hh0
  obtain ⟨gl1, jl1⟩ := leftR_pos (Int.not_lt.2 hh0)
  rw [el1] at jl1 hh0
  refine u_1 ?_
  have : leftR co l = l1 := by rw [leftR_yes (by omega)]; omega
  exact u_4
theorem szTokenS_g (a : List GToken) (l : Int) (hlen : a.length ≤ maxLen) (hx : ∀ x, x ∈ a → x.ok) (h0 : 0 ≤ l ∧ l ≤ 1048576) :
    Valid PP GG 109 [.d (.slc 7 (rToken a)), .d (.int .i64 l)] (.d (.int .i64 (leftR (a.length + sumBy GToken.cost a) l))) [none, none] := by
  refine cv Tryz.func109 [.d (.int .i64 (leftR (a.length + sumBy GToken.cost a) l))] ?_
  unfold maxLen at hlen
  obtain ⟨m, hm⟩ : ∃ z : Int, l - a.length = z := ⟨_, rfl⟩
  have hw : IntKind.i64.wrap (l - a.length) = m := by rw [wrap_id (by omega) (by omega)]; exact hm
  refine u_1 ?_
  refine u_13 hw ?_
  refine u_2 ?_
  refine W_cond rfl (fun h => W_seq ?_) (fun h => W_skip ?_)
  · refine u_3 ?_
    simp at h
    have : leftR (a.length + sumBy GToken.cost a) l = -1 := leftR_no (by omega)
    exact u_4
  simp at h
  refine u_2 ?_
  refine W_block (W_loop (fun n st => ∃ (i : Nat) (v : Int), n = a.length - i ∧ i ≤ a.length ∧ 0 ≤ v ∧ v = m - (sumBy GToken.cost (a.take i) : Nat) ∧
    st = ⟨[], [(0, .d (.slc 7 (rToken a))), (1, .d (.int .i64 v)), (5, .d (.int .i64 i))], [], 0⟩) _ ⟨0, m, rfl, by omega, h, by simp [sumBy], rfl⟩ ?_)
  rintro n st ⟨i, v, rfl, hi, hv, he, rfl⟩
  refine u_2 ?_
  refine W_cond rfl (fun h2 => W_skip ?_) (fun h2 => W_exit ?_)
  · simp at h2
    have ha := List.getElem?_eq_getElem h2
    generalize a[i] = x at ha
    have hs := sumBy_succ (f := GToken.cost) ha
    have ht := sumBy_take GToken.cost a (i + 1)
    have ct := szToken_g (GG := GG) x v (hx x (List.mem_of_getElem? ha)) ⟨hv, by omega⟩
    obtain ⟨v2, hv2⟩ : ∃ z : Int, leftR x.cost v = z := ⟨_, rfl⟩
    rw [hv2] at ct
    refine W_seq (W_block (W_seq ?_))
    refine u_11 ha (Z1 ct) ?_
    refine u_1 ?_
    refine W_cond rfl (fun h3 => W_seq ?_) (fun h3 => W_skip ?_)
    · refine u_3 ?_
      simp at h3
      rw [← hv2] at h3
      have hn := leftR_neg (by omega) h3
      have : leftR (a.length + sumBy GToken.cost a) l = -1 := leftR_no (by omega)
      exact u_4
    simp at h3
    rw [← hv2] at h3
    obtain ⟨g1, g2⟩ := leftR_pos (Int.not_lt.2 h3)
    rw [hv2] at g2
    refine u_3 ?_
    exact ⟨a.length - (i + 1), by omega, i + 1, v2, rfl, h2, by omega, by omega, by simp [gc, closeN, liveA, gcV, gcO, renA, namesAs, namesA]; rw [wrap_id (by omega) (by omega)]⟩
  · simp at h2
    rw [if_pos rfl]
    rw [List.take_of_length_le h2] at he
    refine u_1 ?_
    have : leftR (a.length + sumBy GToken.cost a) l = v := by rw [leftR_yes (by omega)]; omega
    exact u_4
theorem toToken_g (x : GToken) (hx : x.cost ≤ 1099511627776) : Valid PP GG 187 [.agg x.c] (.agg x.o) [none] := by
  refine cv Tryz.func187 [.agg x.o] ?_
  have hco : x.cost = (x.fNames.length + sumBy List.length x.fNames) := rfl
  refine u_1 ?_
  refine u_1 ?_
  refine u_1 ?_
  refine u_1 ?_
  refine u_14 (Z1 (toStringS_ok x.fNames (by omega))) ?_
  refine u_1 ?_
  refine u_1 ?_
  refine u_1 ?_
  refine u_1 ?_
  refine u_1 ?_
  exact u_8
theorem toTokenS_g (a : List GToken) (hx : a.length + sumBy GToken.cost a ≤ 1099511627776) : Valid PP GG 117 [.d (.slc 7 (rToken a))] (.own 1 7 (rToken a)) [none] := by
  refine cv Tryz.func117 [.own 1 7 (rToken a)] ?_
  refine u_1 ?_
  refine u_6 ?_
  refine u_2 ?_
  refine W_block (W_loop (fun n st => ∃ (i : Nat) (R : List (List D)), n = a.length - i ∧ i ≤ a.length ∧ R.length = a.length ∧ (∀ r, r ∈ R → r.length = 7) ∧ R.take i = rToken (a.take i) ∧
    st = ⟨[], [(0, .d (.slc 7 (rToken a))), (3, .sl 0), (4, .d (.int .i64 i))], [(0, .arr 0 1 7 R)], 1⟩) _ ⟨0, List.replicate a.length [.int .i64 0, .int .i64 0, .slc 1 [], .int .i64 0, .int .i64 0, .int .i64 0, .int .i64 0], rfl, by omega, by simp, by intro r hr; rw [List.eq_of_mem_replicate hr]; rfl, rfl, rfl⟩ ?_)
  rintro n st ⟨i, R, rfl, hi, hl, h1, hR, rfl⟩
  refine u_2 ?_
  refine W_cond rfl (fun h => W_skip ?_) (fun h => W_exit ?_)
  · simp at h
    have ha := List.getElem?_eq_getElem h
    generalize a[i] = x at ha
    have hg := sumBy_get (f := GToken.cost) ha
    obtain ⟨y0, y1, y2, y3, y4, y5, y6, hd⟩ := rows7 h1 (show i < R.length by omega)
    refine W_seq (W_block ?_)
    refine u_11 (Y3 ha hd hl) (Z1 (toToken_g x (by omega))) ?_
    refine u_3 ?_
    exact ⟨a.length - (i + 1), by omega, i + 1, R.set i x.row, rfl, h, by simpa using hl, set7 h1 rfl, by rw [take_set_succ (by omega), hR, List.take_add_one, ha, rToken_app]; rfl,
      by simp [gc, closeN, liveA, gcV, gcO, renA, renO, namesAs, namesA, namesO, posn]; rw [wrap_id (by omega) (by omega)]⟩
  · simp at h
    have e : R = rToken a := by rwa [List.take_of_length_le (by omega), List.take_of_length_le (by omega)] at hR
    subst e
    rw [if_pos rfl]
    refine u_1 ?_
    exact u_8
theorem eqToken_g (x y : GToken) (hx : x.cost ≤ 1099511627776) (hy : y.cost ≤ 1099511627776) : Valid PP GG 194 [.agg x.c, .agg y.c] (.d (.bool (decide (x = y)))) [none, none] := by
  refine cv Tryz.func194 [.d (.bool (decide (x = y)))] ?_
  have hcx : x.cost = (x.fNames.length + sumBy List.length x.fNames) := rfl
  have hcy : y.cost = (y.fNames.length + sumBy List.length y.fNames) := rfl
  refine u_1 ?_
  refine u_2 ?_
  refine W_cond rfl (fun h => W_seq ?_) (fun h0 => W_skip ?_)
  · refine u_3 ?_
    have : decide (x = y) = false := by rw [decide_eq_false_iff_not]; intro e; rw [e] at h; simp at h
    exact u_4
  refine u_2 ?_
  refine W_cond rfl (fun h => W_seq ?_) (fun h1 => W_skip ?_)
  · refine u_3 ?_
    have : decide (x = y) = false := by rw [decide_eq_false_iff_not]; intro e; rw [e] at h; simp at h
    exact u_4
  refine u_15 (Z1 (eqStringS_ok x.fNames y.fNames (by omega))) ?_
  refine W_cond rfl (fun h => W_seq ?_) (fun h2 => W_skip ?_)
  · refine u_3 ?_
    have : decide (x = y) = false := by rw [decide_eq_false_iff_not]; intro e; rw [e] at h; simp at h
    exact u_4
  refine u_2 ?_
  refine W_cond rfl (fun h => W_seq ?_) (fun h3 => W_skip ?_)
  · refine u_3 ?_
    have : decide (x = y) = false := by rw [decide_eq_false_iff_not]; intro e; rw [e] at h; simp at h
    exact u_4
  refine u_2 ?_
  refine W_cond rfl (fun h => W_seq ?_) (fun h4 => W_skip ?_)
  · refine u_3 ?_
    have : decide (x = y) = false := by rw [decide_eq_false_iff_not]; intro e; rw [e] at h; simp at h
    exact u_4
  refine u_2 ?_
  refine W_cond rfl (fun h => W_seq ?_) (fun h5 => W_skip ?_)
  · refine u_3 ?_
    have : decide (x = y) = false := by rw [decide_eq_false_iff_not]; intro e; rw [e] at h; simp at h
    exact u_4
  refine u_2 ?_
  refine W_cond rfl (fun h => W_seq ?_) (fun h6 => W_skip ?_)
  · refine u_3 ?_
    have : decide (x = y) = false := by rw [decide_eq_false_iff_not]; intro e; rw [e] at h; simp at h
    exact u_4
  refine u_1 ?_
  have : decide (x = y) = true := by
    rw [decide_eq_true_iff]
    cases x; cases y
    simp at h0 h1 h2 h3 h4 h5 h6
    simp_all
  exact u_4
theorem eqTokenS_g (a b : List GToken) (hx : a.length + sumBy GToken.cost a ≤ 1099511627776) (hy : b.length + sumBy GToken.cost b ≤ 1099511627776) : Valid PP GG 128 [.d (.slc 7 (rToken a)), .d (.slc 7 (rToken b))] (.d (.bool (decide (a = b)))) [none, none] := by
  refine cv Tryz.func128 [.d (.bool (decide (a = b)))] ?_
  refine u_1 ?_
  refine u_2 ?_
  refine W_cond rfl (fun h => W_seq ?_) (fun hlen => W_skip ?_)
  · refine u_3 ?_
    have : decide (a = b) = false := by rw [decide_eq_false_iff_not]; intro e; subst e; simp at h
    exact u_4
  refine W_seq (W_seq (?_))
  simp at hlen
  refine u_3 ?_
  refine W_block (W_loop (fun n st => ∃ i : Nat, n = a.length - i ∧ i ≤ a.length ∧ a.take i = b.take i ∧ st = ⟨[], [(0, .d (.slc 7 (rToken a))), (1, .d (.slc 7 (rToken b))), (5, .d (.int .i64 i))], [], 0⟩) _ ⟨0, rfl, by omega, rfl, rfl⟩ ?_)
  rintro n st ⟨i, rfl, hi, he, rfl⟩
  refine u_2 ?_
  refine W_cond rfl (fun h => W_skip ?_) (fun h => W_exit ?_)
  · simp at h
    have ha := List.getElem?_eq_getElem h
    have hb := List.getElem?_eq_getElem (show i < b.length by omega)
    generalize a[i] = x at ha
    generalize b[i]'_ = y at hb
    have ga := sumBy_get (f := GToken.cost) ha
    have gb := sumBy_get (f := GToken.cost) hb
    refine W_seq (W_block (W_seq ?_))
    refine u_12 (Y2 ha hb) (Z1 (eqToken_g x y (by omega) (by omega))) ?_
    refine W_cond rfl (fun h2 => W_seq ?_) (fun h2 => W_skip ?_)
    · refine u_3 ?_
      have : decide (a = b) = false := by rw [decide_eq_false_iff_not]; intro e; subst e; rw [ha] at hb; cases hb; simp at h2
      exact u_4
    refine u_3 ?_
    have hxy : x = y := by simpa using h2
    subst hxy
    exact ⟨a.length - (i + 1), by omega, i + 1, rfl, h, take_succ_eq he ha hb, by simp [gc, closeN, liveA, gcV, gcO, renA, namesAs, namesA]; rw [wrap_id (by omega) (by omega)]⟩
  · simp at h
    rw [if_pos rfl]
    refine u_1 ?_
    have : decide (a = b) = true := by
      rw [decide_eq_true_iff]
      rwa [List.take_of_length_le h, List.take_of_length_le (by omega)] at he
    exact u_4
theorem markTokenS_g (a : List GToken) (k : Int) (hx : a.length + sumBy GToken.cost a ≤ 1099511627776) (hk : 0 ≤ k ∧ k + (sumBy GToken.marks a : Nat) ≤ 140737488355328) :
    Valid PP GG 136 [.own 1 7 (rToken a), .d (.int .i64 k)] (.d (.int .i64 (k + (sumBy GToken.marks a : Nat)))) [some (.own 1 7 (rToken (markL GToken.mark GToken.marks a k))), none] := by
  refine cv Tryz.func136 [.d (.int .i64 (k + (sumBy GToken.marks a : Nat)))] ?_
  have hml := sumBy_le GToken.marks_le a
  refine u_1 ?_
  refine u_2 ?_
  refine W_block (W_loop (fun n st => ∃ (i : Nat) (R : List (List D)) (q : Int), n = a.length - i ∧ i ≤ a.length ∧ R = rToken (markL GToken.mark GToken.marks (a.take i) k ++ a.drop i) ∧ q = k + (sumBy GToken.marks (a.take i) : Nat) ∧
    st = ⟨[], [(0, .sl 0), (1, .d (.int .i64 q)), (5, .d (.int .i64 i))], [(0, .arr 0 1 7 R)], 1⟩) _ ⟨0, rToken a, k, rfl, by omega, rfl, by simp [sumBy], by simp [gc, closeN, liveA, gcV, gcO, renA, renO, namesAs, namesA, namesO, posn]⟩ ?_)
  rintro n st ⟨i, R, q, rfl, hi, hR, hq, rfl⟩
  have hl : R.length = a.length := by rw [hR]; simp [markL_len]; omega
  refine u_2 ?_
  refine W_cond rfl (fun h => W_skip ?_) (fun h => W_exit ?_)
  · simp [hl] at h
    have ha := List.getElem?_eq_getElem h
    generalize a[i] = x at ha
    have hg := sumBy_get (f := GToken.cost) ha
    have hs := sumBy_succ (f := GToken.marks) ha
    have ht := sumBy_take GToken.marks a (i + 1)
    have hsucc : R.set i (x.mark q).row = rToken (markL GToken.mark GToken.marks (a.take (i + 1)) k ++ a.drop (i + 1)) := by
      rw [hR, drop_get ha, rToken_app]
      show (rToken (markL GToken.mark GToken.marks (a.take i) k) ++ x.row :: rToken (a.drop (i + 1))).set i (x.mark q).row = _
      rw [set_mid (by simp [markL_len]; omega), markL_succ k ha, rToken_app, rToken_app, hq]; rfl
    have hd : R[i]? = some x.row := by
      rw [hR, drop_get ha, rToken_app]
      exact mid_get (by simp [markL_len]; omega)
    have hset := fun y => set_get hd y
    have hme : x.mark q = { fId := q, fParent := q + 1, fNames := marksString (q + 1 + 1) x.fNames.length, fMade := q + 1 + 1 + ((x.fNames.length : Nat) : Int), fEnds := q + 1 + 1 + ((x.fNames.length : Nat) : Int) + 1, fLimit := q + 1 + 1 + ((x.fNames.length : Nat) : Int) + 1 + 1, fUses := q + 1 + 1 + ((x.fNames.length : Nat) : Int) + 1 + 1 + 1 } := rfl
    have hms : x.marks = 1 + 1 + x.fNames.length + 1 + 1 + 1 + 1 := rfl
    have hco : x.cost = (x.fNames.length + sumBy List.length x.fNames) := rfl
    clear hR
    refine W_seq (W_block (W_seq ?_))
    simp only [GToken.row] at hd
    refine u_7 (Y3 hd hset hl) ?_
    obtain ⟨q1, hq1⟩ : ∃ z : Int, q + 1 = z := ⟨_, rfl⟩
    have wq1 : IntKind.i64.wrap (q + 1) = q1 := by rw [wrap_id (by omega) (by omega)]; exact hq1
    refine u_13 wq1 ?_
    refine u_13 (Y3 hd hset hl) ?_
    obtain ⟨q2, hq2⟩ : ∃ z : Int, q1 + 1 = z := ⟨_, rfl⟩
    have wq2 : IntKind.i64.wrap (q1 + 1) = q2 := by rw [wrap_id (by omega) (by omega)]; exact hq2
    refine u_13 wq2 ?_
    have ct := markStringS_ok (GG := GG) (strsD x.fNames) q2 (by simp [strsD]) (by simp; omega) (by omega)
    simp only [strsD_len] at ct
    obtain ⟨q3, hq3⟩ : ∃ z : Int, q2 + x.fNames.length = z := ⟨_, rfl⟩
    rw [hq3] at ct
    refine u_18 (Y3 hd hset hl) (Z1 ct) ?_
    clear ct
    refine u_13 (Y3 hd hset hl) ?_
    obtain ⟨q4, hq4⟩ : ∃ z : Int, q3 + 1 = z := ⟨_, rfl⟩
    have wq4 : IntKind.i64.wrap (q3 + 1) = q4 := by rw [wrap_id (by omega) (by omega)]; exact hq4
    refine u_13 wq4 ?_
    refine u_13 (Y3 hd hset hl) ?_
    obtain ⟨q5, hq5⟩ : ∃ z : Int, q4 + 1 = z := ⟨_, rfl⟩
    have wq5 : IntKind.i64.wrap (q4 + 1) = q5 := by rw [wrap_id (by omega) (by omega)]; exact hq5
    refine u_13 wq5 ?_
    refine u_13 (Y3 hd hset hl) ?_
    obtain ⟨q6, hq6⟩ : ∃ z : Int, q5 + 1 = z := ⟨_, rfl⟩
    have wq6 : IntKind.i64.wrap (q5 + 1) = q6 := by rw [wrap_id (by omega) (by omega)]; exact hq6
    refine u_13 wq6 ?_
    refine u_13 (Y3 hd hset hl) ?_
    obtain ⟨q7, hq7⟩ : ∃ z : Int, q6 + 1 = z := ⟨_, rfl⟩
    have wq7 : IntKind.i64.wrap (q6 + 1) = q7 := by rw [wrap_id (by omega) (by omega)]; exact hq7
    refine u_7 wq7 ?_
    refine u_3 ?_
    refine ⟨a.length - (i + 1), by omega, i + 1, R.set i (x.mark q).row, q7, rfl, h, hsucc, by omega, ?_⟩
    simp [gc, closeN, liveA, gcV, gcO, renA, renO, namesAs, namesA, namesO, posn]
    refine ⟨wrap_id (by omega) (by omega), ?_⟩
    simp only [hme, hq1, hq2, hq3, hq4, hq5, hq6, hq7]
  · simp [hl] at h
    have e : R = rToken (markL GToken.mark GToken.marks a k) := by
      rw [List.take_of_length_le h, List.drop_eq_nil_of_le h] at hR; simpa using hR
    rw [List.take_of_length_le h] at hq
    subst e
    rw [if_pos rfl]
    refine u_1 ?_
    subst hq
    exact u_8
end Go.Proofs.YtdckkojgnkoabaaGreatDoor.Ab
