/-
  A part of a proof about the given program; what is proved is said where each theorem stands.
-/
import Derived.Test.YtdckkojgnkoabaaGreatDoorFrameA
import Derived.Test.YtdckkojgnkoabaaGreatDoorFrameB
import Derived.Test.YtdckkojgnkoabaaGreatDoorFrameC
import Derived.Test.YtdckkojgnkoabaaGreatDoorFrameD
import Derived.Test.YtdckkojgnkoabaaGreatDoorFrameE
import Derived.Test.YtdckkojgnkoabaaGreatDoorCodesA
import Derived.Test.YtdckkojgnkoabaaGreatDoorCodesB
import Derived.Test.YtdckkojgnkoabaaGreatDoorShelf
namespace Go.Proofs
end Go.Proofs
set_option linter.unusedSimpArgs false
set_option linter.unusedVariables false
set_option maxRecDepth 100000
set_option maxHeartbeats 2000000
namespace Go.Proofs.YtdckkojgnkoabaaGreatDoor.Ab
open Go.Proofs
variable {GG : GV}
/-- A goal that waits. -/
structure Hide (q : Prop) : Prop where
  out : q
theorem u_1 {P : Program} {vl : List Nat} {nt : Nat × List Nat} {V : FuncId → List C → C → List (Option C) → Prop} {ops : List AOper} {st st' : St} {Kn : St → Prop} {Ke : Nat → St → Prop} {Kr : St → Prop} (hn : Kn ⟨[], st'.vars, st'.objs, st.nx + 64 * ops.length⟩) (h : ∀ K : St → Prop, K st' → regS V st.nx 0 ops st K := by intro K hK; simp; repeat' (first | with_reducible exact hK | (with_reducible refine goL_split (fun _ => ?_) (fun _ => ?_) <;> simp) | with_reducible refine And.intro ?_ ?_ | with_reducible exact okay_rfl rfl | with_reducible assumption | omega)) : W P vl nt V (.reg ops false) st Kn Ke Kr := W_regS (h) hn
theorem u_2 {p_e1 : Prop} (e1 : p_e1) {p_e2 : Prop} (e2 : p_e2) {P : Program} {vl : List Nat} {nt : Nat × List Nat} {V : FuncId → List C → C → List (Option C) → Prop} {ops : List AOper} {st st' : St} {Kn : St → Prop} {Ke : Nat → St → Prop} {Kr : St → Prop} (hn : Kn ⟨[], st'.vars, st'.objs, st.nx + 64 * ops.length⟩) (h : p_e1 → p_e2 → ∀ K : St → Prop, K st' → regD V st.nx 0 ops [] true st K := by intro e1 e2; intro K hK; simp [e1, e2]; repeat' (first | with_reducible exact hK | (with_reducible refine goL_split (fun _ => ?_) (fun _ => ?_) <;> simp [e1, e2]) | with_reducible refine And.intro ?_ ?_ | with_reducible exact okay_rfl rfl | with_reducible assumption | omega)) : W P vl nt V (.reg ops true) st Kn Ke Kr := W_regD (h e1 e2) hn
theorem u_3 {P : Program} {vl : List Nat} {nt : Nat × List Nat} {V : FuncId → List C → C → List (Option C) → Prop} {ops : List AOper} {st st' : St} {Kn : St → Prop} {Ke : Nat → St → Prop} {Kr : St → Prop} (hn : Kn ⟨[], st'.vars, st'.objs, st.nx + 64 * ops.length⟩) (h : ∀ K : St → Prop, K st' → regS V st.nx 0 ops st K := by intro K hK; simp [mkA, limit]; repeat' (first | with_reducible exact hK | (with_reducible refine goL_split (fun _ => ?_) (fun _ => ?_) <;> simp [mkA, limit]) | with_reducible refine And.intro ?_ ?_ | with_reducible exact okay_rfl rfl | with_reducible assumption | omega)) : W P vl nt V (.reg ops false) st Kn Ke Kr := W_regS (h) hn
theorem u_4 {p_e1 : Prop} (e1 : p_e1) {p_e2 : Prop} (e2 : p_e2) {p_e3 : Prop} (e3 : p_e3) {P : Program} {vl : List Nat} {nt : Nat × List Nat} {V : FuncId → List C → C → List (Option C) → Prop} {ops : List AOper} {st st' : St} {Kn : St → Prop} {Ke : Nat → St → Prop} {Kr : St → Prop} (hn : Kn ⟨[], st'.vars, st'.objs, st.nx + 64 * ops.length⟩) (h : p_e1 → p_e2 → p_e3 → ∀ K : St → Prop, K st' → regS V st.nx 0 ops st K := by intro e1 e2 e3; intro K hK; simp [e1, e2, e3]; repeat' (first | with_reducible exact hK | (with_reducible refine goL_split (fun _ => ?_) (fun _ => ?_) <;> simp [e1, e2, e3]) | with_reducible refine And.intro ?_ ?_ | with_reducible exact okay_rfl rfl | with_reducible assumption | omega)) : W P vl nt V (.reg ops false) st Kn Ke Kr := W_regS (h e1 e2 e3) hn
theorem u_5 {P : Program} {vl : List Nat} {nt : Nat × List Nat} {V : FuncId → List C → C → List (Option C) → Prop} {ops : List AOper} {st : St} {Kn : St → Prop} {Ke : Nat → St → Prop} {Kr : St → Prop} (r : Nat) (b : Bool) (hn : Kn ⟨[], put st.vars r (.d (.bool b)), st.objs, st.nx + 64 * ops.length⟩) (h : ∀ K : St → Prop, (∀ t tm, t = b → K ⟨tm, put st.vars r (.d (.bool t)), st.objs, st.nx⟩) → regS V st.nx 0 ops st K := by intro K hK; simp; repeat' (first | exact hK _ _ (by clear hK; first | omega | (exact decide_eq_false (by omega)) | (exact decide_eq_true (by omega)) | (exact (decide_eq_true (by omega)).symm) | (exact (decide_eq_false (by omega)).symm) | (exact decide_eq_decide.2 (by omega)) | (simp only [← decide_not]; exact decide_eq_decide.2 (by omega)) | (simp [*]; done) | (simp [*]; omega) | (simp_all; done) | (simp_all; omega) | (rw [Bool.eq_iff_iff]; simp at *; omega)) | (with_reducible refine goL_split (fun _ => ?_) (fun _ => ?_) <;> simp) | with_reducible refine And.intro ?_ ?_ | with_reducible exact okay_rfl rfl | with_reducible assumption | omega)) : W P vl nt V (.reg ops false) st Kn Ke Kr := W_regB r b (h) hn
theorem u_6 {p_e1 : Prop} (e1 : p_e1) {P : Program} {vl : List Nat} {nt : Nat × List Nat} {V : FuncId → List C → C → List (Option C) → Prop} {ops : List AOper} {st st' : St} {Kn : St → Prop} {Ke : Nat → St → Prop} {Kr : St → Prop} (hn : Kn ⟨[], st'.vars, st'.objs, st.nx + 64 * ops.length⟩) (h : p_e1 → ∀ K : St → Prop, K st' → regS V st.nx 0 ops st K := by intro e1; intro K hK; simp [e1]; repeat' (first | with_reducible exact hK | (with_reducible refine goL_split (fun _ => ?_) (fun _ => ?_) <;> simp [e1]) | with_reducible refine And.intro ?_ ?_ | with_reducible exact okay_rfl rfl | with_reducible assumption | omega)) : W P vl nt V (.reg ops false) st Kn Ke Kr := W_regS (h e1) hn
theorem u_7 {p_e1 : Prop} (e1 : p_e1) {p_e2 : Prop} (e2 : p_e2) {P : Program} {vl : List Nat} {nt : Nat × List Nat} {V : FuncId → List C → C → List (Option C) → Prop} {ops : List AOper} {st st' : St} {Kn : St → Prop} {Ke : Nat → St → Prop} {Kr : St → Prop} (hn : Kn ⟨[], st'.vars, st'.objs, st.nx + 64 * ops.length⟩) (h : p_e1 → p_e2 → ∀ K : St → Prop, K st' → regS V st.nx 0 ops st K := by intro e1 e2; intro K hK; simp [e1, e2]; repeat' (first | with_reducible exact hK | (with_reducible refine goL_split (fun _ => ?_) (fun _ => ?_) <;> simp [e1, e2]) | with_reducible refine And.intro ?_ ?_ | with_reducible exact okay_rfl rfl | with_reducible assumption | omega)) : W P vl nt V (.reg ops false) st Kn Ke Kr := W_regS (h e1 e2) hn
theorem u_8 {p_k1 : Prop} (k1 : p_k1) {P : Program} {vl : List Nat} {nt : Nat × List Nat} {V : FuncId → List C → C → List (Option C) → Prop} {ops : List AOper} {st st' : St} {Kn : St → Prop} {Ke : Nat → St → Prop} {Kr : St → Prop} (hn : Kn ⟨[], st'.vars, st'.objs, st.nx + 64 * ops.length⟩) (h : p_k1 → ∀ K : St → Prop, K st' → regS V st.nx 0 ops st K := by intro k1; intro K hK; simp; repeat' (first | with_reducible exact hK | (with_reducible refine callQ (k1) ?_; simp) | (with_reducible refine goL_split (fun _ => ?_) (fun _ => ?_) <;> simp) | with_reducible refine And.intro ?_ ?_ | with_reducible exact okay_rfl rfl | with_reducible assumption | omega)) : W P vl nt V (.reg ops false) st Kn Ke Kr := W_regS (h k1) hn
theorem u_9 {P : Program} {vl : List Nat} {nt : Nat × List Nat} {V : FuncId → List C → C → List (Option C) → Prop} {ops : List AOper} {st st' : St} {Kn : St → Prop} {Ke : Nat → St → Prop} {Kr : St → Prop} (hn : Kn ⟨[], st'.vars, st'.objs, st.nx + 64 * ops.length⟩) (h : ∀ K : St → Prop, K st' → regS V st.nx 0 ops st K := by intro K hK; simp [litA]; repeat' (first | with_reducible exact hK | (with_reducible refine goL_split (fun _ => ?_) (fun _ => ?_) <;> simp [litA]) | with_reducible refine And.intro ?_ ?_ | with_reducible exact okay_rfl rfl | with_reducible assumption | omega)) : W P vl nt V (.reg ops false) st Kn Ke Kr := W_regS (h) hn
theorem u_10 {P : Program} {vl : List Nat} {nt : Nat × List Nat} {V : FuncId → List C → C → List (Option C) → Prop} {ops : List AOper} {st st' : St} {Kn : St → Prop} {Ke : Nat → St → Prop} {Kr : St → Prop} (hn : Kn ⟨[], st'.vars, st'.objs, st.nx + 64 * ops.length⟩) (h : ∀ K : St → Prop, K st' → regS V st.nx 0 ops st K := by intro K hK; simp [t1, t2, limit]; repeat' (first | with_reducible exact hK | (with_reducible refine goL_split (fun _ => ?_) (fun _ => ?_) <;> simp [t1, t2, limit]) | with_reducible refine And.intro ?_ ?_ | with_reducible exact okay_rfl rfl | with_reducible assumption | omega)) : W P vl nt V (.reg ops false) st Kn Ke Kr := W_regS (h) hn
theorem u_11 {p_e1 : Prop} (e1 : p_e1) {P : Program} {vl : List Nat} {nt : Nat × List Nat} {V : FuncId → List C → C → List (Option C) → Prop} {ops : List AOper} {st : St} {Kn : St → Prop} {Ke : Nat → St → Prop} {Kr : St → Prop} (r : Nat) (b : Bool) (hn : Kn ⟨[], put st.vars r (.d (.bool b)), st.objs, st.nx + 64 * ops.length⟩) (h : p_e1 → ∀ K : St → Prop, (∀ t tm, t = b → K ⟨tm, put st.vars r (.d (.bool t)), st.objs, st.nx⟩) → regS V st.nx 0 ops st K := by intro e1; intro K hK; simp [e1]; repeat' (first | exact hK _ _ (by clear hK; first | omega | (exact decide_eq_false (by omega)) | (exact decide_eq_true (by omega)) | (exact (decide_eq_true (by omega)).symm) | (exact (decide_eq_false (by omega)).symm) | (exact decide_eq_decide.2 (by omega)) | (simp only [← decide_not]; exact decide_eq_decide.2 (by omega)) | (simp [*]; done) | (simp [*]; omega) | (simp_all; done) | (simp_all; omega) | (rw [Bool.eq_iff_iff]; simp at *; omega)) | (with_reducible refine goL_split (fun _ => ?_) (fun _ => ?_) <;> simp [e1]) | with_reducible refine And.intro ?_ ?_ | with_reducible exact okay_rfl rfl | with_reducible assumption | omega)) : W P vl nt V (.reg ops false) st Kn Ke Kr := W_regB r b (h e1) hn
theorem u_12 {p_e1 : Prop} (e1 : p_e1) {p_e2 : Prop} (e2 : p_e2) {p_e3 : Prop} (e3 : p_e3) {p_e4 : Prop} (e4 : p_e4) {p_e5 : Prop} (e5 : p_e5) {p_k1 : Prop} (k1 : p_k1) {P : Program} {vl : List Nat} {nt : Nat × List Nat} {V : FuncId → List C → C → List (Option C) → Prop} {ops : List AOper} {st : St} {Kn : St → Prop} {Ke : Nat → St → Prop} {Kr : St → Prop} (r : Nat) (b : Bool) (hn : Kn ⟨[], put st.vars r (.d (.bool b)), st.objs, st.nx + 64 * ops.length⟩) (h : p_e1 → p_e2 → p_e3 → p_e4 → p_e5 → p_k1 → ∀ K : St → Prop, (∀ t tm, t = b → K ⟨tm, put st.vars r (.d (.bool t)), st.objs, st.nx⟩) → regS V st.nx 0 ops st K := by intro e1 e2 e3 e4 e5 k1; intro K hK; simp [e1, e2, e3, e4, e5]; repeat' (first | exact hK _ _ (by clear hK; first | omega | (exact decide_eq_false (by omega)) | (exact decide_eq_true (by omega)) | (exact (decide_eq_true (by omega)).symm) | (exact (decide_eq_false (by omega)).symm) | (exact decide_eq_decide.2 (by omega)) | (simp only [← decide_not]; exact decide_eq_decide.2 (by omega)) | (simp [*]; done) | (simp [*]; omega) | (simp_all; done) | (simp_all; omega) | (rw [Bool.eq_iff_iff]; simp at *; omega)) | (with_reducible refine callQ (k1) ?_; simp [e1, e2, e3, e4, e5]) | (with_reducible refine goL_split (fun _ => ?_) (fun _ => ?_) <;> simp [e1, e2, e3, e4, e5]) | with_reducible refine And.intro ?_ ?_ | with_reducible exact okay_rfl rfl | with_reducible assumption | omega)) : W P vl nt V (.reg ops false) st Kn Ke Kr := W_regB r b (h e1 e2 e3 e4 e5 k1) hn
theorem u_13 {p_e1 : Prop} (e1 : p_e1) {p_e2 : Prop} (e2 : p_e2) {P : Program} {vl : List Nat} {nt : Nat × List Nat} {V : FuncId → List C → C → List (Option C) → Prop} {ops : List AOper} {st : St} {Kn : St → Prop} {Ke : Nat → St → Prop} {Kr : St → Prop} (r : Nat) (b : Bool) (hn : Kn ⟨[], put st.vars r (.d (.bool b)), st.objs, st.nx + 64 * ops.length⟩) (h : p_e1 → p_e2 → ∀ K : St → Prop, (∀ t tm, t = b → K ⟨tm, put st.vars r (.d (.bool t)), st.objs, st.nx⟩) → regS V st.nx 0 ops st K := by intro e1 e2; intro K hK; simp [e1, e2]; repeat' (first | exact hK _ _ (by clear hK; first | omega | (exact decide_eq_false (by omega)) | (exact decide_eq_true (by omega)) | (exact (decide_eq_true (by omega)).symm) | (exact (decide_eq_false (by omega)).symm) | (exact decide_eq_decide.2 (by omega)) | (simp only [← decide_not]; exact decide_eq_decide.2 (by omega)) | (simp [*]; done) | (simp [*]; omega) | (simp_all; done) | (simp_all; omega) | (rw [Bool.eq_iff_iff]; simp at *; omega)) | (with_reducible refine goL_split (fun _ => ?_) (fun _ => ?_) <;> simp [e1, e2]) | with_reducible refine And.intro ?_ ?_ | with_reducible exact okay_rfl rfl | with_reducible assumption | omega)) : W P vl nt V (.reg ops false) st Kn Ke Kr := W_regB r b (h e1 e2) hn
theorem u_14 {p_e1 : Prop} (e1 : p_e1) {p_k1 : Prop} (k1 : p_k1) {P : Program} {vl : List Nat} {nt : Nat × List Nat} {V : FuncId → List C → C → List (Option C) → Prop} {ops : List AOper} {st st' : St} {Kn : St → Prop} {Ke : Nat → St → Prop} {Kr : St → Prop} (hn : Kn ⟨[], st'.vars, st'.objs, st.nx + 64 * ops.length⟩) (h : p_e1 → p_k1 → ∀ K : St → Prop, K st' → regS V st.nx 0 ops st K := by intro e1 k1; intro K hK; simp [e1]; repeat' (first | with_reducible exact hK | (with_reducible refine callQ (k1) ?_; simp [e1]) | (with_reducible refine goL_split (fun _ => ?_) (fun _ => ?_) <;> simp [e1]) | with_reducible refine And.intro ?_ ?_ | with_reducible exact okay_rfl rfl | with_reducible assumption | omega)) : W P vl nt V (.reg ops false) st Kn Ke Kr := W_regS (h e1 k1) hn
theorem u_15 {p_k1 : Prop} (k1 : p_k1) {p_k2 : Prop} (k2 : p_k2) {P : Program} {vl : List Nat} {nt : Nat × List Nat} {V : FuncId → List C → C → List (Option C) → Prop} {ops : List AOper} {st : St} {Kn : St → Prop} {Ke : Nat → St → Prop} {Kr : St → Prop} (r : Nat) (b : Bool) (hn : Kn ⟨[], put st.vars r (.d (.bool b)), st.objs, st.nx + 64 * ops.length⟩) (h : p_k1 → p_k2 → ∀ K : St → Prop, (∀ t tm, t = b → K ⟨tm, put st.vars r (.d (.bool t)), st.objs, st.nx⟩) → regS V st.nx 0 ops st K := by intro k1 k2; intro K hK; simp; repeat' (first | exact hK _ _ (by clear hK; first | omega | (exact decide_eq_false (by omega)) | (exact decide_eq_true (by omega)) | (exact (decide_eq_true (by omega)).symm) | (exact (decide_eq_false (by omega)).symm) | (exact decide_eq_decide.2 (by omega)) | (simp only [← decide_not]; exact decide_eq_decide.2 (by omega)) | (simp [*]; done) | (simp [*]; omega) | (simp_all; done) | (simp_all; omega) | (rw [Bool.eq_iff_iff]; simp at *; omega)) | (with_reducible refine callQ (k1) ?_; simp) | (with_reducible refine callQ (k2) ?_; simp) | (with_reducible refine goL_split (fun _ => ?_) (fun _ => ?_) <;> simp) | with_reducible refine And.intro ?_ ?_ | with_reducible exact okay_rfl rfl | with_reducible assumption | omega)) : W P vl nt V (.reg ops false) st Kn Ke Kr := W_regB r b (h k1 k2) hn
theorem u_16 {p_e1 : Prop} (e1 : p_e1) {p_e2 : Prop} (e2 : p_e2) {p_e3 : Prop} (e3 : p_e3) {p_e4 : Prop} (e4 : p_e4) {P : Program} {vl : List Nat} {nt : Nat × List Nat} {V : FuncId → List C → C → List (Option C) → Prop} {ops : List AOper} {st : St} {Kn : St → Prop} {Ke : Nat → St → Prop} {Kr : St → Prop} (r : Nat) (b : Bool) (hn : Kn ⟨[], put st.vars r (.d (.bool b)), st.objs, st.nx + 64 * ops.length⟩) (h : p_e1 → p_e2 → p_e3 → p_e4 → ∀ K : St → Prop, (∀ t tm, t = b → K ⟨tm, put st.vars r (.d (.bool t)), st.objs, st.nx⟩) → regS V st.nx 0 ops st K := by intro e1 e2 e3 e4; intro K hK; simp [e1, e2, e3, e4]; repeat' (first | exact hK _ _ (by clear hK; first | omega | (exact decide_eq_false (by omega)) | (exact decide_eq_true (by omega)) | (exact (decide_eq_true (by omega)).symm) | (exact (decide_eq_false (by omega)).symm) | (exact decide_eq_decide.2 (by omega)) | (simp only [← decide_not]; exact decide_eq_decide.2 (by omega)) | (simp [*]; done) | (simp [*]; omega) | (simp_all; done) | (simp_all; omega) | (rw [Bool.eq_iff_iff]; simp at *; omega)) | (with_reducible refine goL_split (fun _ => ?_) (fun _ => ?_) <;> simp [e1, e2, e3, e4]) | with_reducible refine And.intro ?_ ?_ | with_reducible exact okay_rfl rfl | with_reducible assumption | omega)) : W P vl nt V (.reg ops false) st Kn Ke Kr := W_regB r b (h e1 e2 e3 e4) hn
theorem u_17 {p_k1 : Prop} (k1 : p_k1) {P : Program} {vl : List Nat} {nt : Nat × List Nat} {V : FuncId → List C → C → List (Option C) → Prop} {ops : List AOper} {st : St} {Kn : St → Prop} {Ke : Nat → St → Prop} {Kr : St → Prop} (r : Nat) (b : Bool) (hn : Kn ⟨[], put st.vars r (.d (.bool b)), st.objs, st.nx + 64 * ops.length⟩) (h : p_k1 → ∀ K : St → Prop, (∀ t tm, t = b → K ⟨tm, put st.vars r (.d (.bool t)), st.objs, st.nx⟩) → regS V st.nx 0 ops st K := by intro k1; intro K hK; simp; repeat' (first | exact hK _ _ (by clear hK; first | omega | (exact decide_eq_false (by omega)) | (exact decide_eq_true (by omega)) | (exact (decide_eq_true (by omega)).symm) | (exact (decide_eq_false (by omega)).symm) | (exact decide_eq_decide.2 (by omega)) | (simp only [← decide_not]; exact decide_eq_decide.2 (by omega)) | (simp [*]; done) | (simp [*]; omega) | (simp_all; done) | (simp_all; omega) | (rw [Bool.eq_iff_iff]; simp at *; omega)) | (with_reducible refine callQ (k1) ?_; simp) | (with_reducible refine goL_split (fun _ => ?_) (fun _ => ?_) <;> simp) | with_reducible refine And.intro ?_ ?_ | with_reducible exact okay_rfl rfl | with_reducible assumption | omega)) : W P vl nt V (.reg ops false) st Kn Ke Kr := W_regB r b (h k1) hn
theorem u_18 {p_e1 : Prop} (e1 : p_e1) {p_e2 : Prop} (e2 : p_e2) {p_e3 : Prop} (e3 : p_e3) {p_k1 : Prop} (k1 : p_k1) {P : Program} {vl : List Nat} {nt : Nat × List Nat} {V : FuncId → List C → C → List (Option C) → Prop} {ops : List AOper} {st st' : St} {Kn : St → Prop} {Ke : Nat → St → Prop} {Kr : St → Prop} (hn : Kn ⟨[], st'.vars, st'.objs, st.nx + 64 * ops.length⟩) (h : p_e1 → p_e2 → p_e3 → p_k1 → ∀ K : St → Prop, K st' → regS V st.nx 0 ops st K := by intro e1 e2 e3 k1; intro K hK; simp [e1, e2, e3]; repeat' (first | with_reducible exact hK | (with_reducible refine callQ (k1) ?_; simp [e1, e2, e3]) | (with_reducible refine goL_split (fun _ => ?_) (fun _ => ?_) <;> simp [e1, e2, e3]) | with_reducible refine And.intro ?_ ?_ | with_reducible exact okay_rfl rfl | with_reducible assumption | omega)) : W P vl nt V (.reg ops false) st Kn Ke Kr := W_regS (h e1 e2 e3 k1) hn
theorem u_19 {p_e1 : Prop} (e1 : p_e1) {p_e2 : Prop} (e2 : p_e2) {p_k1 : Prop} (k1 : p_k1) {P : Program} {vl : List Nat} {nt : Nat × List Nat} {V : FuncId → List C → C → List (Option C) → Prop} {ops : List AOper} {st st' : St} {Kn : St → Prop} {Ke : Nat → St → Prop} {Kr : St → Prop} (hn : Kn ⟨[], st'.vars, st'.objs, st.nx + 64 * ops.length⟩) (h : p_e1 → p_e2 → p_k1 → ∀ K : St → Prop, K st' → regD V st.nx 0 ops [] true st K := by intro e1 e2 k1; intro K hK; simp [e1, e2]; repeat' (first | with_reducible exact hK | (with_reducible refine callQ (k1) ?_; simp [e1, e2]) | (with_reducible refine goL_split (fun _ => ?_) (fun _ => ?_) <;> simp [e1, e2]) | with_reducible refine And.intro ?_ ?_ | with_reducible exact okay_rfl rfl | with_reducible assumption | omega)) : W P vl nt V (.reg ops true) st Kn Ke Kr := W_regD (h e1 e2 k1) hn
theorem u_20 {P : Program} {vl : List Nat} {nt : Nat × List Nat} {V : FuncId → List C → C → List (Option C) → Prop} {ops : List AOper} {st st' : St} {Kn : St → Prop} {Ke : Nat → St → Prop} {Kr : St → Prop} (hn : Kn ⟨[], st'.vars, st'.objs, st.nx + 64 * ops.length⟩) (h : ∀ K : St → Prop, K st' → regS V st.nx 0 ops st K := by intro K hK; simp [wl1]; repeat' (first | with_reducible exact hK | (with_reducible refine goL_split (fun _ => ?_) (fun _ => ?_) <;> simp [wl1]) | with_reducible refine And.intro ?_ ?_ | with_reducible exact okay_rfl rfl | with_reducible assumption | omega)) : W P vl nt V (.reg ops false) st Kn Ke Kr := W_regS (h) hn
theorem u_21 {P : Program} {vl : List Nat} {nt : Nat × List Nat} {V : FuncId → List C → C → List (Option C) → Prop} {ops : List AOper} {st st' : St} {Kn : St → Prop} {Ke : Nat → St → Prop} {Kr : St → Prop} (hn : Kn ⟨[], st'.vars, st'.objs, st.nx + 64 * ops.length⟩) (h : ∀ K : St → Prop, K st' → regS V st.nx 0 ops st K := by intro K hK; simp [wl2]; repeat' (first | with_reducible exact hK | (with_reducible refine goL_split (fun _ => ?_) (fun _ => ?_) <;> simp [wl2]) | with_reducible refine And.intro ?_ ?_ | with_reducible exact okay_rfl rfl | with_reducible assumption | omega)) : W P vl nt V (.reg ops false) st Kn Ke Kr := W_regS (h) hn
theorem u_22 {p_e1 : Prop} (e1 : p_e1) {p q : Prop} (hq : q) (h : p_e1 → Hide q → p := by intro e1; intro hq; (repeat' (first | refine W_seq ?_ | refine W_skip ?_ | refine W_block ?_ | (refine W_exit ?_; first | refine pick_pos rfl ?_ | (refine pick_neg rfl ?_; first | refine pick_pos rfl ?_ | (refine pick_neg rfl ?_; refine pick_pos rfl ?_))) | (refine W_regP fun K hK => ?_; simp [e1]) | (refine W_regPD fun K hK => ?_; simp [e1]) | (with_reducible refine hK _ ?_; clear hK K) | (with_reducible refine goL_split (fun h => ?_) (fun h => ?_) <;> first | (exfalso; simp at h; done) | (exfalso; simp at h; omega) | (exfalso; simp at h; contradiction) | ((try simp at h); simp [e1])) | with_reducible refine And.intro ?_ ?_ | with_reducible exact okay_rfl rfl | with_reducible assumption | (refine W_cond rfl (fun h => ?_) (fun h => ?_) <;> first | (exfalso; simp at h; done) | (exfalso; simp at h; omega) | (exfalso; simp at h; contradiction) | (exfalso; simp_all; done) | (try simp at h)) | (refine W_ret ?_; simp [Fin, e1]) | omega)); exact hq.out) : p := h e1 ⟨hq⟩
theorem u_23 {p_e1 : Prop} (e1 : p_e1) {p_k1 : Prop} (k1 : p_k1) {p : Prop} (h : p_e1 → p_k1 → p := by intro e1 k1; repeat' (first | refine W_seq ?_ | refine W_skip ?_ | refine W_block ?_ | (refine W_exit ?_; first | refine pick_pos rfl ?_ | (refine pick_neg rfl ?_; first | refine pick_pos rfl ?_ | (refine pick_neg rfl ?_; refine pick_pos rfl ?_))) | (refine W_regP fun K hK => ?_; simp [e1, strs_get]) | (refine W_regPD fun K hK => ?_; simp [e1, strs_get]) | (with_reducible refine hK _ ?_; clear hK K) | (with_reducible refine callQ (k1) ?_; simp [e1, strs_get]) | (with_reducible refine goL_split (fun h => ?_) (fun h => ?_) <;> first | (exfalso; simp at h; done) | (exfalso; simp at h; omega) | (exfalso; simp at h; contradiction) | ((try simp at h); simp [e1, strs_get])) | with_reducible refine And.intro ?_ ?_ | with_reducible exact okay_rfl rfl | with_reducible assumption | (refine W_cond rfl (fun h => ?_) (fun h => ?_) <;> first | (exfalso; simp at h; done) | (exfalso; simp at h; omega) | (exfalso; simp at h; contradiction) | (exfalso; simp_all; done) | (try simp at h)) | (refine W_ret ?_; simp [Fin, e1, strs_get]) | omega)) : p := h e1 k1
theorem u_24 {p_e1 : Prop} (e1 : p_e1) {p_k1 : Prop} (k1 : p_k1) {p q : Prop} (hq : q) (h : p_e1 → p_k1 → Hide q → p := by intro e1 k1; intro hq; (repeat' (first | refine W_seq ?_ | refine W_skip ?_ | refine W_block ?_ | (refine W_exit ?_; first | refine pick_pos rfl ?_ | (refine pick_neg rfl ?_; first | refine pick_pos rfl ?_ | (refine pick_neg rfl ?_; refine pick_pos rfl ?_))) | (refine W_regP fun K hK => ?_; simp [e1, strs_get]) | (refine W_regPD fun K hK => ?_; simp [e1, strs_get]) | (with_reducible refine hK _ ?_; clear hK K) | (with_reducible refine callQ (k1) ?_; simp [e1, strs_get]) | (with_reducible refine goL_split (fun h => ?_) (fun h => ?_) <;> first | (exfalso; simp at h; done) | (exfalso; simp at h; omega) | (exfalso; simp at h; contradiction) | ((try simp at h); simp [e1, strs_get])) | with_reducible refine And.intro ?_ ?_ | with_reducible exact okay_rfl rfl | with_reducible assumption | (refine W_cond rfl (fun h => ?_) (fun h => ?_) <;> first | (exfalso; simp at h; done) | (exfalso; simp at h; omega) | (exfalso; simp at h; contradiction) | (exfalso; simp_all; done) | (try simp at h)) | (refine W_ret ?_; simp [Fin, e1, strs_get]) | omega)); exact hq.out) : p := h e1 k1 ⟨hq⟩
theorem u_25 {p_e1 : Prop} (e1 : p_e1) {p_e2 : Prop} (e2 : p_e2) {p_e3 : Prop} (e3 : p_e3) {p_e4 : Prop} (e4 : p_e4) {p_e5 : Prop} (e5 : p_e5) {p_k1 : Prop} (k1 : p_k1) {p q : Prop} (hq : q) (h : p_e1 → p_e2 → p_e3 → p_e4 → p_e5 → p_k1 → Hide q → p := by intro e1 e2 e3 e4 e5 k1; intro hq; (repeat' (first | refine W_seq ?_ | refine W_skip ?_ | refine W_block ?_ | (refine W_exit ?_; first | refine pick_pos rfl ?_ | (refine pick_neg rfl ?_; first | refine pick_pos rfl ?_ | (refine pick_neg rfl ?_; refine pick_pos rfl ?_))) | (refine W_regP fun K hK => ?_; simp [e1, e2, strs_get, e3, e4, e5]) | (refine W_regPD fun K hK => ?_; simp [e1, e2, strs_get, e3, e4, e5]) | (with_reducible refine hK _ ?_; clear hK K) | (with_reducible refine callQ (k1) ?_; simp [e1, e2, strs_get, e3, e4, e5]) | (with_reducible refine goL_split (fun h => ?_) (fun h => ?_) <;> first | (exfalso; simp at h; done) | (exfalso; simp at h; omega) | (exfalso; simp at h; contradiction) | ((try simp at h); simp [e1, e2, strs_get, e3, e4, e5])) | with_reducible refine And.intro ?_ ?_ | with_reducible exact okay_rfl rfl | with_reducible assumption | (refine W_cond rfl (fun h => ?_) (fun h => ?_) <;> first | (exfalso; simp at h; done) | (exfalso; simp at h; omega) | (exfalso; simp at h; contradiction) | (exfalso; simp_all; done) | (try simp at h)) | (refine W_ret ?_; simp [Fin, e1, e2, strs_get, e3, e4, e5]) | omega)); exact hq.out) : p := h e1 e2 e3 e4 e5 k1 ⟨hq⟩
theorem u_26 {p_e1 : Prop} (e1 : p_e1) {p_e2 : Prop} (e2 : p_e2) {p_e3 : Prop} (e3 : p_e3) {p_e4 : Prop} (e4 : p_e4) {p_e5 : Prop} (e5 : p_e5) {p_k1 : Prop} (k1 : p_k1) {p : Prop} (h : p_e1 → p_e2 → p_e3 → p_e4 → p_e5 → p_k1 → p := by intro e1 e2 e3 e4 e5 k1; repeat' (first | refine W_seq ?_ | refine W_skip ?_ | refine W_block ?_ | (refine W_exit ?_; first | refine pick_pos rfl ?_ | (refine pick_neg rfl ?_; first | refine pick_pos rfl ?_ | (refine pick_neg rfl ?_; refine pick_pos rfl ?_))) | (refine W_regP fun K hK => ?_; simp [e1, e2, strs_get, e3, e4, e5]) | (refine W_regPD fun K hK => ?_; simp [e1, e2, strs_get, e3, e4, e5]) | (with_reducible refine hK _ ?_; clear hK K) | (with_reducible refine callQ (k1) ?_; simp [e1, e2, strs_get, e3, e4, e5]) | (with_reducible refine goL_split (fun h => ?_) (fun h => ?_) <;> first | (exfalso; simp at h; done) | (exfalso; simp at h; omega) | (exfalso; simp at h; contradiction) | ((try simp at h); simp [e1, e2, strs_get, e3, e4, e5])) | with_reducible refine And.intro ?_ ?_ | with_reducible exact okay_rfl rfl | with_reducible assumption | (refine W_cond rfl (fun h => ?_) (fun h => ?_) <;> first | (exfalso; simp at h; done) | (exfalso; simp at h; omega) | (exfalso; simp at h; contradiction) | (exfalso; simp_all; done) | (try simp at h)) | (refine W_ret ?_; simp [Fin, e1, e2, strs_get, e3, e4, e5]) | omega)) : p := h e1 e2 e3 e4 e5 k1
theorem u_27 {p_e1 : Prop} (e1 : p_e1) {p : Prop} (h : p_e1 → p := by intro e1; repeat' (first | refine W_seq ?_ | refine W_skip ?_ | refine W_block ?_ | (refine W_exit ?_; first | refine pick_pos rfl ?_ | (refine pick_neg rfl ?_; first | refine pick_pos rfl ?_ | (refine pick_neg rfl ?_; refine pick_pos rfl ?_))) | (refine W_regP fun K hK => ?_; simp [e1]) | (refine W_regPD fun K hK => ?_; simp [e1]) | (with_reducible refine hK _ ?_; clear hK K) | (with_reducible refine goL_split (fun h => ?_) (fun h => ?_) <;> first | (exfalso; simp at h; done) | (exfalso; simp at h; omega) | (exfalso; simp at h; contradiction) | ((try simp at h); simp [e1])) | with_reducible refine And.intro ?_ ?_ | with_reducible exact okay_rfl rfl | with_reducible assumption | (refine W_cond rfl (fun h => ?_) (fun h => ?_) <;> first | (exfalso; simp at h; done) | (exfalso; simp at h; omega) | (exfalso; simp at h; contradiction) | (exfalso; simp_all; done) | (try simp at h)) | (refine W_ret ?_; simp [Fin, e1]) | omega)) : p := h e1
theorem u_28 {p_e1 : Prop} (e1 : p_e1) {p_e2 : Prop} (e2 : p_e2) {p : Prop} (h : p_e1 → p_e2 → p := by intro e1 e2; repeat' (first | refine W_seq ?_ | refine W_skip ?_ | refine W_block ?_ | (refine W_exit ?_; first | refine pick_pos rfl ?_ | (refine pick_neg rfl ?_; first | refine pick_pos rfl ?_ | (refine pick_neg rfl ?_; refine pick_pos rfl ?_))) | (refine W_regP fun K hK => ?_; simp [e1, e2]) | (refine W_regPD fun K hK => ?_; simp [e1, e2]) | (with_reducible refine hK _ ?_; clear hK K) | (with_reducible refine goL_split (fun h => ?_) (fun h => ?_) <;> first | (exfalso; simp at h; done) | (exfalso; simp at h; omega) | (exfalso; simp at h; contradiction) | ((try simp at h); simp [e1, e2])) | with_reducible refine And.intro ?_ ?_ | with_reducible exact okay_rfl rfl | with_reducible assumption | (refine W_cond rfl (fun h => ?_) (fun h => ?_) <;> first | (exfalso; simp at h; done) | (exfalso; simp at h; omega) | (exfalso; simp at h; contradiction) | (exfalso; simp_all; done) | (try simp at h)) | (refine W_ret ?_; simp [Fin, e1, e2]) | omega)) : p := h e1 e2
theorem u_29 {p_e1 : Prop} (e1 : p_e1) {p_e2 : Prop} (e2 : p_e2) {p q : Prop} (hq : q) (h : p_e1 → p_e2 → Hide q → p := by intro e1 e2; intro hq; (repeat' (first | refine W_seq ?_ | refine W_skip ?_ | refine W_block ?_ | (refine W_exit ?_; first | refine pick_pos rfl ?_ | (refine pick_neg rfl ?_; first | refine pick_pos rfl ?_ | (refine pick_neg rfl ?_; refine pick_pos rfl ?_))) | (refine W_regP fun K hK => ?_; simp [e1, e2]) | (refine W_regPD fun K hK => ?_; simp [e1, e2]) | (with_reducible refine hK _ ?_; clear hK K) | (with_reducible refine goL_split (fun h => ?_) (fun h => ?_) <;> first | (exfalso; simp at h; done) | (exfalso; simp at h; omega) | (exfalso; simp at h; contradiction) | ((try simp at h); simp [e1, e2])) | with_reducible refine And.intro ?_ ?_ | with_reducible exact okay_rfl rfl | with_reducible assumption | (refine W_cond rfl (fun h => ?_) (fun h => ?_) <;> first | (exfalso; simp at h; done) | (exfalso; simp at h; omega) | (exfalso; simp at h; contradiction) | (exfalso; simp_all; done) | (try simp at h)) | (refine W_ret ?_; simp [Fin, e1, e2]) | omega)); exact hq.out) : p := h e1 e2 ⟨hq⟩
theorem u_30 {p_e1 : Prop} (e1 : p_e1) {p_e2 : Prop} (e2 : p_e2) {p_k1 : Prop} (k1 : p_k1) {p : Prop} (h : p_e1 → p_e2 → p_k1 → p := by intro e1 e2 k1; repeat' (first | refine W_seq ?_ | refine W_skip ?_ | refine W_block ?_ | (refine W_exit ?_; first | refine pick_pos rfl ?_ | (refine pick_neg rfl ?_; first | refine pick_pos rfl ?_ | (refine pick_neg rfl ?_; refine pick_pos rfl ?_))) | (refine W_regP fun K hK => ?_; simp [e1, e2, strs_get]) | (refine W_regPD fun K hK => ?_; simp [e1, e2, strs_get]) | (with_reducible refine hK _ ?_; clear hK K) | (with_reducible refine callQ (k1) ?_; simp [e1, e2, strs_get]) | (with_reducible refine goL_split (fun h => ?_) (fun h => ?_) <;> first | (exfalso; simp at h; done) | (exfalso; simp at h; omega) | (exfalso; simp at h; contradiction) | ((try simp at h); simp [e1, e2, strs_get])) | with_reducible refine And.intro ?_ ?_ | with_reducible exact okay_rfl rfl | with_reducible assumption | (refine W_cond rfl (fun h => ?_) (fun h => ?_) <;> first | (exfalso; simp at h; done) | (exfalso; simp at h; omega) | (exfalso; simp at h; contradiction) | (exfalso; simp_all; done) | (try simp at h)) | (refine W_ret ?_; simp [Fin, e1, e2, strs_get]) | omega)) : p := h e1 e2 k1
theorem u_31 {p_e1 : Prop} (e1 : p_e1) {p_e2 : Prop} (e2 : p_e2) {p_k1 : Prop} (k1 : p_k1) {p q : Prop} (hq : q) (h : p_e1 → p_e2 → p_k1 → Hide q → p := by intro e1 e2 k1; intro hq; (repeat' (first | refine W_seq ?_ | refine W_skip ?_ | refine W_block ?_ | (refine W_exit ?_; first | refine pick_pos rfl ?_ | (refine pick_neg rfl ?_; first | refine pick_pos rfl ?_ | (refine pick_neg rfl ?_; refine pick_pos rfl ?_))) | (refine W_regP fun K hK => ?_; simp [e1, e2, strs_get]) | (refine W_regPD fun K hK => ?_; simp [e1, e2, strs_get]) | (with_reducible refine hK _ ?_; clear hK K) | (with_reducible refine callQ (k1) ?_; simp [e1, e2, strs_get]) | (with_reducible refine goL_split (fun h => ?_) (fun h => ?_) <;> first | (exfalso; simp at h; done) | (exfalso; simp at h; omega) | (exfalso; simp at h; contradiction) | ((try simp at h); simp [e1, e2, strs_get])) | with_reducible refine And.intro ?_ ?_ | with_reducible exact okay_rfl rfl | with_reducible assumption | (refine W_cond rfl (fun h => ?_) (fun h => ?_) <;> first | (exfalso; simp at h; done) | (exfalso; simp at h; omega) | (exfalso; simp at h; contradiction) | (exfalso; simp_all; done) | (try simp at h)) | (refine W_ret ?_; simp [Fin, e1, e2, strs_get]) | omega)); exact hq.out) : p := h e1 e2 k1 ⟨hq⟩
theorem u_32 {p_e1 : Prop} (e1 : p_e1) {p_e2 : Prop} (e2 : p_e2) {p_e3 : Prop} (e3 : p_e3) {p_e4 : Prop} (e4 : p_e4) {p_e5 : Prop} (e5 : p_e5) {p_e6 : Prop} (e6 : p_e6) {p_k1 : Prop} (k1 : p_k1) {p q : Prop} (hq : q) (h : p_e1 → p_e2 → p_e3 → p_e4 → p_e5 → p_e6 → p_k1 → Hide q → p := by intro e1 e2 e3 e4 e5 e6 k1; intro hq; (repeat' (first | refine W_seq ?_ | refine W_skip ?_ | refine W_block ?_ | (refine W_exit ?_; first | refine pick_pos rfl ?_ | (refine pick_neg rfl ?_; first | refine pick_pos rfl ?_ | (refine pick_neg rfl ?_; refine pick_pos rfl ?_))) | (refine W_regP fun K hK => ?_; simp [e1, e2, e3, strs_get, e4, e5, e6]) | (refine W_regPD fun K hK => ?_; simp [e1, e2, e3, strs_get, e4, e5, e6]) | (with_reducible refine hK _ ?_; clear hK K) | (with_reducible refine callQ (k1) ?_; simp [e1, e2, e3, strs_get, e4, e5, e6]) | (with_reducible refine goL_split (fun h => ?_) (fun h => ?_) <;> first | (exfalso; simp at h; done) | (exfalso; simp at h; omega) | (exfalso; simp at h; contradiction) | ((try simp at h); simp [e1, e2, e3, strs_get, e4, e5, e6])) | with_reducible refine And.intro ?_ ?_ | with_reducible exact okay_rfl rfl | with_reducible assumption | (refine W_cond rfl (fun h => ?_) (fun h => ?_) <;> first | (exfalso; simp at h; done) | (exfalso; simp at h; omega) | (exfalso; simp at h; contradiction) | (exfalso; simp_all; done) | (try simp at h)) | (refine W_ret ?_; simp [Fin, e1, e2, e3, strs_get, e4, e5, e6]) | omega)); exact hq.out) : p := h e1 e2 e3 e4 e5 e6 k1 ⟨hq⟩
theorem u_33 {p_e1 : Prop} (e1 : p_e1) {p_e2 : Prop} (e2 : p_e2) {p_e3 : Prop} (e3 : p_e3) {p_e4 : Prop} (e4 : p_e4) {p_e5 : Prop} (e5 : p_e5) {p_e6 : Prop} (e6 : p_e6) {p_k1 : Prop} (k1 : p_k1) {p : Prop} (h : p_e1 → p_e2 → p_e3 → p_e4 → p_e5 → p_e6 → p_k1 → p := by intro e1 e2 e3 e4 e5 e6 k1; repeat' (first | refine W_seq ?_ | refine W_skip ?_ | refine W_block ?_ | (refine W_exit ?_; first | refine pick_pos rfl ?_ | (refine pick_neg rfl ?_; first | refine pick_pos rfl ?_ | (refine pick_neg rfl ?_; refine pick_pos rfl ?_))) | (refine W_regP fun K hK => ?_; simp [e1, e2, e3, strs_get, e4, e5, e6]) | (refine W_regPD fun K hK => ?_; simp [e1, e2, e3, strs_get, e4, e5, e6]) | (with_reducible refine hK _ ?_; clear hK K) | (with_reducible refine callQ (k1) ?_; simp [e1, e2, e3, strs_get, e4, e5, e6]) | (with_reducible refine goL_split (fun h => ?_) (fun h => ?_) <;> first | (exfalso; simp at h; done) | (exfalso; simp at h; omega) | (exfalso; simp at h; contradiction) | ((try simp at h); simp [e1, e2, e3, strs_get, e4, e5, e6])) | with_reducible refine And.intro ?_ ?_ | with_reducible exact okay_rfl rfl | with_reducible assumption | (refine W_cond rfl (fun h => ?_) (fun h => ?_) <;> first | (exfalso; simp at h; done) | (exfalso; simp at h; omega) | (exfalso; simp at h; contradiction) | (exfalso; simp_all; done) | (try simp at h)) | (refine W_ret ?_; simp [Fin, e1, e2, e3, strs_get, e4, e5, e6]) | omega)) : p := h e1 e2 e3 e4 e5 e6 k1
theorem u_34 {p_e1 : Prop} (e1 : p_e1) {p_e2 : Prop} (e2 : p_e2) {p_k1 : Prop} (k1 : p_k1) {P : Program} {vl : List Nat} {nt : Nat × List Nat} {V : FuncId → List C → C → List (Option C) → Prop} {ops : List AOper} {st : St} {Kn : St → Prop} {Ke : Nat → St → Prop} {Kr : St → Prop} (r : Nat) (b : Bool) (hn : Kn ⟨[], put st.vars r (.d (.bool b)), st.objs, st.nx + 64 * ops.length⟩) (h : p_e1 → p_e2 → p_k1 → ∀ K : St → Prop, (∀ t tm, t = b → K ⟨tm, put st.vars r (.d (.bool t)), st.objs, st.nx⟩) → regS V st.nx 0 ops st K := by intro e1 e2 k1; intro K hK; simp [e1, e2]; repeat' (first | exact hK _ _ (by clear hK; first | omega | (exact decide_eq_false (by omega)) | (exact decide_eq_true (by omega)) | (exact (decide_eq_true (by omega)).symm) | (exact (decide_eq_false (by omega)).symm) | (exact decide_eq_decide.2 (by omega)) | (simp only [← decide_not]; exact decide_eq_decide.2 (by omega)) | (simp [*]; done) | (simp [*]; omega) | (simp_all; done) | (simp_all; omega) | (rw [Bool.eq_iff_iff]; simp at *; omega)) | (with_reducible refine callQ (k1) ?_; simp [e1, e2]) | (with_reducible refine goL_split (fun _ => ?_) (fun _ => ?_) <;> simp [e1, e2]) | with_reducible refine And.intro ?_ ?_ | with_reducible exact okay_rfl rfl | with_reducible assumption | omega)) : W P vl nt V (.reg ops false) st Kn Ke Kr := W_regB r b (h e1 e2 k1) hn
theorem u_35 {p_e1 : Prop} (e1 : p_e1) {p_e2 : Prop} (e2 : p_e2) {p_e3 : Prop} (e3 : p_e3) {p_e4 : Prop} (e4 : p_e4) {p_k1 : Prop} (k1 : p_k1) {P : Program} {vl : List Nat} {nt : Nat × List Nat} {V : FuncId → List C → C → List (Option C) → Prop} {ops : List AOper} {st : St} {Kn : St → Prop} {Ke : Nat → St → Prop} {Kr : St → Prop} (r : Nat) (b : Bool) (hn : Kn ⟨[], put st.vars r (.d (.bool b)), st.objs, st.nx + 64 * ops.length⟩) (h : p_e1 → p_e2 → p_e3 → p_e4 → p_k1 → ∀ K : St → Prop, (∀ t tm, t = b → K ⟨tm, put st.vars r (.d (.bool t)), st.objs, st.nx⟩) → regS V st.nx 0 ops st K := by intro e1 e2 e3 e4 k1; intro K hK; simp [e1, e2, e3, e4]; repeat' (first | exact hK _ _ (by clear hK; first | omega | (exact decide_eq_false (by omega)) | (exact decide_eq_true (by omega)) | (exact (decide_eq_true (by omega)).symm) | (exact (decide_eq_false (by omega)).symm) | (exact decide_eq_decide.2 (by omega)) | (simp only [← decide_not]; exact decide_eq_decide.2 (by omega)) | (simp [*]; done) | (simp [*]; omega) | (simp_all; done) | (simp_all; omega) | (rw [Bool.eq_iff_iff]; simp at *; omega)) | (with_reducible refine callQ (k1) ?_; simp [e1, e2, e3, e4]) | (with_reducible refine goL_split (fun _ => ?_) (fun _ => ?_) <;> simp [e1, e2, e3, e4]) | with_reducible refine And.intro ?_ ?_ | with_reducible exact okay_rfl rfl | with_reducible assumption | omega)) : W P vl nt V (.reg ops false) st Kn Ke Kr := W_regB r b (h e1 e2 e3 e4 k1) hn
theorem u_36 {p_k1 : Prop} (k1 : p_k1) {p_k2 : Prop} (k2 : p_k2) {p_k3 : Prop} (k3 : p_k3) {p_k4 : Prop} (k4 : p_k4) {p_k5 : Prop} (k5 : p_k5) {P : Program} {vl : List Nat} {nt : Nat × List Nat} {V : FuncId → List C → C → List (Option C) → Prop} {ops : List AOper} {st : St} {Kn : St → Prop} {Ke : Nat → St → Prop} {Kr : St → Prop} (r : Nat) (b : Bool) (hn : Kn ⟨[], put st.vars r (.d (.bool b)), st.objs, st.nx + 64 * ops.length⟩) (h : p_k1 → p_k2 → p_k3 → p_k4 → p_k5 → ∀ K : St → Prop, (∀ t tm, t = b → K ⟨tm, put st.vars r (.d (.bool t)), st.objs, st.nx⟩) → regS V st.nx 0 ops st K := by intro k1 k2 k3 k4 k5; intro K hK; simp; repeat' (first | exact hK _ _ (by clear hK; first | omega | (exact decide_eq_false (by omega)) | (exact decide_eq_true (by omega)) | (exact (decide_eq_true (by omega)).symm) | (exact (decide_eq_false (by omega)).symm) | (exact decide_eq_decide.2 (by omega)) | (simp only [← decide_not]; exact decide_eq_decide.2 (by omega)) | (simp [*]; done) | (simp [*]; omega) | (simp_all; done) | (simp_all; omega) | (rw [Bool.eq_iff_iff]; simp at *; omega)) | (with_reducible refine callQ (k1) ?_; simp) | (with_reducible refine callQ (k2) ?_; simp) | (with_reducible refine callQ (k3) ?_; simp) | (with_reducible refine callQ (k4) ?_; simp) | (with_reducible refine callQ (k5) ?_; simp) | (with_reducible refine goL_split (fun _ => ?_) (fun _ => ?_) <;> simp) | with_reducible refine And.intro ?_ ?_ | with_reducible exact okay_rfl rfl | with_reducible assumption | omega)) : W P vl nt V (.reg ops false) st Kn Ke Kr := W_regB r b (h k1 k2 k3 k4 k5) hn
theorem u_37 {p_e1 : Prop} (e1 : p_e1) {p_e2 : Prop} (e2 : p_e2) {p_k1 : Prop} (k1 : p_k1) {p_k2 : Prop} (k2 : p_k2) {p_k3 : Prop} (k3 : p_k3) {p_k4 : Prop} (k4 : p_k4) {P : Program} {vl : List Nat} {nt : Nat × List Nat} {V : FuncId → List C → C → List (Option C) → Prop} {ops : List AOper} {st : St} {Kn : St → Prop} {Ke : Nat → St → Prop} {Kr : St → Prop} (r : Nat) (b : Bool) (hn : Kn ⟨[], put st.vars r (.d (.bool b)), st.objs, st.nx + 64 * ops.length⟩) (h : p_e1 → p_e2 → p_k1 → p_k2 → p_k3 → p_k4 → ∀ K : St → Prop, (∀ t tm, t = b → K ⟨tm, put st.vars r (.d (.bool t)), st.objs, st.nx⟩) → regS V st.nx 0 ops st K := by intro e1 e2 k1 k2 k3 k4; intro K hK; simp [e1, e2]; repeat' (first | exact hK _ _ (by clear hK; first | omega | (exact decide_eq_false (by omega)) | (exact decide_eq_true (by omega)) | (exact (decide_eq_true (by omega)).symm) | (exact (decide_eq_false (by omega)).symm) | (exact decide_eq_decide.2 (by omega)) | (simp only [← decide_not]; exact decide_eq_decide.2 (by omega)) | (simp [*]; done) | (simp [*]; omega) | (simp_all; done) | (simp_all; omega) | (rw [Bool.eq_iff_iff]; simp at *; omega)) | (with_reducible refine callQ (k1) ?_; simp [e1, e2]) | (with_reducible refine callQ (k2) ?_; simp [e1, e2]) | (with_reducible refine callQ (k3) ?_; simp [e1, e2]) | (with_reducible refine callQ (k4) ?_; simp [e1, e2]) | (with_reducible refine goL_split (fun _ => ?_) (fun _ => ?_) <;> simp [e1, e2]) | with_reducible refine And.intro ?_ ?_ | with_reducible exact okay_rfl rfl | with_reducible assumption | omega)) : W P vl nt V (.reg ops false) st Kn Ke Kr := W_regB r b (h e1 e2 k1 k2 k3 k4) hn
theorem u_38 {p : Prop} (h : p := by repeat' (first | refine W_seq ?_ | refine W_skip ?_ | refine W_block ?_ | (refine W_exit ?_; first | refine pick_pos rfl ?_ | (refine pick_neg rfl ?_; first | refine pick_pos rfl ?_ | (refine pick_neg rfl ?_; refine pick_pos rfl ?_))) | (refine W_regP fun K hK => ?_; simp) | (refine W_regPD fun K hK => ?_; simp) | (with_reducible refine hK _ ?_; clear hK K) | (with_reducible refine goL_split (fun h => ?_) (fun h => ?_) <;> first | (exfalso; simp at h; done) | (exfalso; simp at h; omega) | (exfalso; simp at h; contradiction) | ((try simp at h); simp)) | with_reducible refine And.intro ?_ ?_ | with_reducible exact okay_rfl rfl | with_reducible assumption | (refine W_cond rfl (fun h => ?_) (fun h => ?_) <;> first | (exfalso; simp at h; done) | (exfalso; simp at h; omega) | (exfalso; simp at h; contradiction) | (exfalso; simp_all; done) | (try simp at h)) | (refine W_ret ?_; simp [Fin]) | omega)) : p := h
theorem u_39 {p_e1 : Prop} (e1 : p_e1) {p_k1 : Prop} (k1 : p_k1) {P : Program} {vl : List Nat} {nt : Nat × List Nat} {V : FuncId → List C → C → List (Option C) → Prop} {ops : List AOper} {st : St} {Kn : St → Prop} {Ke : Nat → St → Prop} {Kr : St → Prop} (r : Nat) (b : Bool) (hn : Kn ⟨[], put st.vars r (.d (.bool b)), st.objs, st.nx + 64 * ops.length⟩) (h : p_e1 → p_k1 → ∀ K : St → Prop, (∀ t tm, t = b → K ⟨tm, put st.vars r (.d (.bool t)), st.objs, st.nx⟩) → regS V st.nx 0 ops st K := by intro e1 k1; intro K hK; simp [e1]; repeat' (first | exact hK _ _ (by clear hK; first | omega | (exact decide_eq_false (by omega)) | (exact decide_eq_true (by omega)) | (exact (decide_eq_true (by omega)).symm) | (exact (decide_eq_false (by omega)).symm) | (exact decide_eq_decide.2 (by omega)) | (simp only [← decide_not]; exact decide_eq_decide.2 (by omega)) | (simp [*]; done) | (simp [*]; omega) | (simp_all; done) | (simp_all; omega) | (rw [Bool.eq_iff_iff]; simp at *; omega)) | (with_reducible refine callQ (k1) ?_; simp [e1]) | (with_reducible refine goL_split (fun _ => ?_) (fun _ => ?_) <;> simp [e1]) | with_reducible refine And.intro ?_ ?_ | with_reducible exact okay_rfl rfl | with_reducible assumption | omega)) : W P vl nt V (.reg ops false) st Kn Ke Kr := W_regB r b (h e1 k1) hn
theorem u_40 {p q : Prop} (hq : q) (h : Hide q → p := by intro hq; (repeat' (first | refine W_seq ?_ | refine W_skip ?_ | refine W_block ?_ | (refine W_exit ?_; first | refine pick_pos rfl ?_ | (refine pick_neg rfl ?_; first | refine pick_pos rfl ?_ | (refine pick_neg rfl ?_; refine pick_pos rfl ?_))) | (refine W_regP fun K hK => ?_; simp) | (refine W_regPD fun K hK => ?_; simp) | (with_reducible refine hK _ ?_; clear hK K) | (with_reducible refine goL_split (fun h => ?_) (fun h => ?_) <;> first | (exfalso; simp at h; done) | (exfalso; simp at h; omega) | (exfalso; simp at h; contradiction) | ((try simp at h); simp)) | with_reducible refine And.intro ?_ ?_ | with_reducible exact okay_rfl rfl | with_reducible assumption | (refine W_cond rfl (fun h => ?_) (fun h => ?_) <;> first | (exfalso; simp at h; done) | (exfalso; simp at h; omega) | (exfalso; simp at h; contradiction) | (exfalso; simp_all; done) | (try simp at h)) | (refine W_ret ?_; simp [Fin]) | omega)); exact hq.out) : p := h ⟨hq⟩
theorem u_41 {p_e1 : Prop} (e1 : p_e1) {p_k1 : Prop} (k1 : p_k1) {p : Prop} (h : p_e1 → p_k1 → p := by intro e1 k1; repeat' (first | refine W_seq ?_ | refine W_skip ?_ | refine W_block ?_ | (refine W_exit ?_; first | refine pick_pos rfl ?_ | (refine pick_neg rfl ?_; first | refine pick_pos rfl ?_ | (refine pick_neg rfl ?_; refine pick_pos rfl ?_))) | (refine W_regP fun K hK => ?_; simp [e1]) | (refine W_regPD fun K hK => ?_; simp [e1]) | (with_reducible refine hK _ ?_; clear hK K) | (with_reducible refine callQ (k1) ?_; simp [e1]) | (with_reducible refine goL_split (fun h => ?_) (fun h => ?_) <;> first | (exfalso; simp at h; done) | (exfalso; simp at h; omega) | (exfalso; simp at h; contradiction) | ((try simp at h); simp [e1])) | with_reducible refine And.intro ?_ ?_ | with_reducible exact okay_rfl rfl | with_reducible assumption | (refine W_cond rfl (fun h => ?_) (fun h => ?_) <;> first | (exfalso; simp at h; done) | (exfalso; simp at h; omega) | (exfalso; simp at h; contradiction) | (exfalso; simp_all; done) | (try simp at h)) | (refine W_ret ?_; simp [Fin, e1]) | omega)) : p := h e1 k1
theorem u_42 {p_e1 : Prop} (e1 : p_e1) {p_k1 : Prop} (k1 : p_k1) {p q : Prop} (hq : q) (h : p_e1 → p_k1 → Hide q → p := by intro e1 k1; intro hq; (repeat' (first | refine W_seq ?_ | refine W_skip ?_ | refine W_block ?_ | (refine W_exit ?_; first | refine pick_pos rfl ?_ | (refine pick_neg rfl ?_; first | refine pick_pos rfl ?_ | (refine pick_neg rfl ?_; refine pick_pos rfl ?_))) | (refine W_regP fun K hK => ?_; simp [e1]) | (refine W_regPD fun K hK => ?_; simp [e1]) | (with_reducible refine hK _ ?_; clear hK K) | (with_reducible refine callQ (k1) ?_; simp [e1]) | (with_reducible refine goL_split (fun h => ?_) (fun h => ?_) <;> first | (exfalso; simp at h; done) | (exfalso; simp at h; omega) | (exfalso; simp at h; contradiction) | ((try simp at h); simp [e1])) | with_reducible refine And.intro ?_ ?_ | with_reducible exact okay_rfl rfl | with_reducible assumption | (refine W_cond rfl (fun h => ?_) (fun h => ?_) <;> first | (exfalso; simp at h; done) | (exfalso; simp at h; omega) | (exfalso; simp at h; contradiction) | (exfalso; simp_all; done) | (try simp at h)) | (refine W_ret ?_; simp [Fin, e1]) | omega)); exact hq.out) : p := h e1 k1 ⟨hq⟩
theorem u_43 {p_k1 : Prop} (k1 : p_k1) {p : Prop} (h : p_k1 → p := by intro k1; repeat' (first | refine W_seq ?_ | refine W_skip ?_ | refine W_block ?_ | (refine W_exit ?_; first | refine pick_pos rfl ?_ | (refine pick_neg rfl ?_; first | refine pick_pos rfl ?_ | (refine pick_neg rfl ?_; refine pick_pos rfl ?_))) | (refine W_regP fun K hK => ?_; simp) | (refine W_regPD fun K hK => ?_; simp) | (with_reducible refine hK _ ?_; clear hK K) | (with_reducible refine callQ (k1) ?_; simp) | (with_reducible refine goL_split (fun h => ?_) (fun h => ?_) <;> first | (exfalso; simp at h; done) | (exfalso; simp at h; omega) | (exfalso; simp at h; contradiction) | ((try simp at h); simp)) | with_reducible refine And.intro ?_ ?_ | with_reducible exact okay_rfl rfl | with_reducible assumption | (refine W_cond rfl (fun h => ?_) (fun h => ?_) <;> first | (exfalso; simp at h; done) | (exfalso; simp at h; omega) | (exfalso; simp at h; contradiction) | (exfalso; simp_all; done) | (try simp at h)) | (refine W_ret ?_; simp [Fin]) | omega)) : p := h k1
theorem u_44 {p_e1 : Prop} (e1 : p_e1) {p_e2 : Prop} (e2 : p_e2) {p_k1 : Prop} (k1 : p_k1) {p : Prop} (h : p_e1 → p_e2 → p_k1 → p := by intro e1 e2 k1; repeat' (first | refine W_seq ?_ | refine W_skip ?_ | refine W_block ?_ | (refine W_exit ?_; first | refine pick_pos rfl ?_ | (refine pick_neg rfl ?_; first | refine pick_pos rfl ?_ | (refine pick_neg rfl ?_; refine pick_pos rfl ?_))) | (refine W_regP fun K hK => ?_; simp [e1, e2]) | (refine W_regPD fun K hK => ?_; simp [e1, e2]) | (with_reducible refine hK _ ?_; clear hK K) | (with_reducible refine callQ (k1) ?_; simp [e1, e2]) | (with_reducible refine goL_split (fun h => ?_) (fun h => ?_) <;> first | (exfalso; simp at h; done) | (exfalso; simp at h; omega) | (exfalso; simp at h; contradiction) | ((try simp at h); simp [e1, e2])) | with_reducible refine And.intro ?_ ?_ | with_reducible exact okay_rfl rfl | with_reducible assumption | (refine W_cond rfl (fun h => ?_) (fun h => ?_) <;> first | (exfalso; simp at h; done) | (exfalso; simp at h; omega) | (exfalso; simp at h; contradiction) | (exfalso; simp_all; done) | (try simp at h)) | (refine W_ret ?_; simp [Fin, e1, e2]) | omega)) : p := h e1 e2 k1
theorem u_45 {p_e1 : Prop} (e1 : p_e1) {p_e2 : Prop} (e2 : p_e2) {p_e3 : Prop} (e3 : p_e3) {p_e4 : Prop} (e4 : p_e4) {p_k1 : Prop} (k1 : p_k1) {p_k2 : Prop} (k2 : p_k2) {p q : Prop} (hq : q) (h : p_e1 → p_e2 → p_e3 → p_e4 → p_k1 → p_k2 → Hide q → p := by intro e1 e2 e3 e4 k1 k2; intro hq; (repeat' (first | refine W_seq ?_ | refine W_skip ?_ | refine W_block ?_ | (refine W_exit ?_; first | refine pick_pos rfl ?_ | (refine pick_neg rfl ?_; first | refine pick_pos rfl ?_ | (refine pick_neg rfl ?_; refine pick_pos rfl ?_))) | (refine W_regP fun K hK => ?_; simp [e1, e2, e3, e4]) | (refine W_regPD fun K hK => ?_; simp [e1, e2, e3, e4]) | (with_reducible refine hK _ ?_; clear hK K) | (with_reducible refine callQ (k1) ?_; simp [e1, e2, e3, e4]) | (with_reducible refine callQ (k2) ?_; simp [e1, e2, e3, e4]) | (with_reducible refine goL_split (fun h => ?_) (fun h => ?_) <;> first | (exfalso; simp at h; done) | (exfalso; simp at h; omega) | (exfalso; simp at h; contradiction) | ((try simp at h); simp [e1, e2, e3, e4])) | with_reducible refine And.intro ?_ ?_ | with_reducible exact okay_rfl rfl | with_reducible assumption | (refine W_cond rfl (fun h => ?_) (fun h => ?_) <;> first | (exfalso; simp at h; done) | (exfalso; simp at h; omega) | (exfalso; simp at h; contradiction) | (exfalso; simp_all; done) | (try simp at h)) | (refine W_ret ?_; simp [Fin, e1, e2, e3, e4]) | omega)); exact hq.out) : p := h e1 e2 e3 e4 k1 k2 ⟨hq⟩
theorem u_46 {p_e1 : Prop} (e1 : p_e1) {p_e2 : Prop} (e2 : p_e2) {p_e3 : Prop} (e3 : p_e3) {p_e4 : Prop} (e4 : p_e4) {p_e5 : Prop} (e5 : p_e5) {p_k1 : Prop} (k1 : p_k1) {p_k2 : Prop} (k2 : p_k2) {p q : Prop} (hq : q) (h : p_e1 → p_e2 → p_e3 → p_e4 → p_e5 → p_k1 → p_k2 → Hide q → p := by intro e1 e2 e3 e4 e5 k1 k2; intro hq; (repeat' (first | refine W_seq ?_ | refine W_skip ?_ | refine W_block ?_ | (refine W_exit ?_; first | refine pick_pos rfl ?_ | (refine pick_neg rfl ?_; first | refine pick_pos rfl ?_ | (refine pick_neg rfl ?_; refine pick_pos rfl ?_))) | (refine W_regP fun K hK => ?_; simp [e1, e2, e3, e4, e5]) | (refine W_regPD fun K hK => ?_; simp [e1, e2, e3, e4, e5]) | (with_reducible refine hK _ ?_; clear hK K) | (with_reducible refine callQ (k1) ?_; simp [e1, e2, e3, e4, e5]) | (with_reducible refine callQ (k2) ?_; simp [e1, e2, e3, e4, e5]) | (with_reducible refine goL_split (fun h => ?_) (fun h => ?_) <;> first | (exfalso; simp at h; done) | (exfalso; simp at h; omega) | (exfalso; simp at h; contradiction) | ((try simp at h); simp [e1, e2, e3, e4, e5])) | with_reducible refine And.intro ?_ ?_ | with_reducible exact okay_rfl rfl | with_reducible assumption | (refine W_cond rfl (fun h => ?_) (fun h => ?_) <;> first | (exfalso; simp at h; done) | (exfalso; simp at h; omega) | (exfalso; simp at h; contradiction) | (exfalso; simp_all; done) | (try simp at h)) | (refine W_ret ?_; simp [Fin, e1, e2, e3, e4, e5]) | omega)); exact hq.out) : p := h e1 e2 e3 e4 e5 k1 k2 ⟨hq⟩
theorem u_47 {p_e1 : Prop} (e1 : p_e1) {p_e2 : Prop} (e2 : p_e2) {p_e3 : Prop} (e3 : p_e3) {p_e4 : Prop} (e4 : p_e4) {p_e5 : Prop} (e5 : p_e5) {p_k1 : Prop} (k1 : p_k1) {p_k2 : Prop} (k2 : p_k2) {p : Prop} (h : p_e1 → p_e2 → p_e3 → p_e4 → p_e5 → p_k1 → p_k2 → p := by intro e1 e2 e3 e4 e5 k1 k2; repeat' (first | refine W_seq ?_ | refine W_skip ?_ | refine W_block ?_ | (refine W_exit ?_; first | refine pick_pos rfl ?_ | (refine pick_neg rfl ?_; first | refine pick_pos rfl ?_ | (refine pick_neg rfl ?_; refine pick_pos rfl ?_))) | (refine W_regP fun K hK => ?_; simp [e1, e2, e3, e4, e5]) | (refine W_regPD fun K hK => ?_; simp [e1, e2, e3, e4, e5]) | (with_reducible refine hK _ ?_; clear hK K) | (with_reducible refine callQ (k1) ?_; simp [e1, e2, e3, e4, e5]) | (with_reducible refine callQ (k2) ?_; simp [e1, e2, e3, e4, e5]) | (with_reducible refine goL_split (fun h => ?_) (fun h => ?_) <;> first | (exfalso; simp at h; done) | (exfalso; simp at h; omega) | (exfalso; simp at h; contradiction) | ((try simp at h); simp [e1, e2, e3, e4, e5])) | with_reducible refine And.intro ?_ ?_ | with_reducible exact okay_rfl rfl | with_reducible assumption | (refine W_cond rfl (fun h => ?_) (fun h => ?_) <;> first | (exfalso; simp at h; done) | (exfalso; simp at h; omega) | (exfalso; simp at h; contradiction) | (exfalso; simp_all; done) | (try simp at h)) | (refine W_ret ?_; simp [Fin, e1, e2, e3, e4, e5]) | omega)) : p := h e1 e2 e3 e4 e5 k1 k2
theorem u_48 {p_e1 : Prop} (e1 : p_e1) {p_e2 : Prop} (e2 : p_e2) {p_e3 : Prop} (e3 : p_e3) {p_e4 : Prop} (e4 : p_e4) {p_e5 : Prop} (e5 : p_e5) {p_e6 : Prop} (e6 : p_e6) {p_k1 : Prop} (k1 : p_k1) {p : Prop} (h : p_e1 → p_e2 → p_e3 → p_e4 → p_e5 → p_e6 → p_k1 → p := by intro e1 e2 e3 e4 e5 e6 k1; repeat' (first | refine W_seq ?_ | refine W_skip ?_ | refine W_block ?_ | (refine W_exit ?_; first | refine pick_pos rfl ?_ | (refine pick_neg rfl ?_; first | refine pick_pos rfl ?_ | (refine pick_neg rfl ?_; refine pick_pos rfl ?_))) | (refine W_regP fun K hK => ?_; simp [e1, e2, e3, e4, e5, e6]) | (refine W_regPD fun K hK => ?_; simp [e1, e2, e3, e4, e5, e6]) | (with_reducible refine hK _ ?_; clear hK K) | (with_reducible refine callQ (k1) ?_; simp [e1, e2, e3, e4, e5, e6]) | (with_reducible refine goL_split (fun h => ?_) (fun h => ?_) <;> first | (exfalso; simp at h; done) | (exfalso; simp at h; omega) | (exfalso; simp at h; contradiction) | ((try simp at h); simp [e1, e2, e3, e4, e5, e6])) | with_reducible refine And.intro ?_ ?_ | with_reducible exact okay_rfl rfl | with_reducible assumption | (refine W_cond rfl (fun h => ?_) (fun h => ?_) <;> first | (exfalso; simp at h; done) | (exfalso; simp at h; omega) | (exfalso; simp at h; contradiction) | (exfalso; simp_all; done) | (try simp at h)) | (refine W_ret ?_; simp [Fin, e1, e2, e3, e4, e5, e6]) | omega)) : p := h e1 e2 e3 e4 e5 e6 k1
theorem u_49 {p_e1 : Prop} (e1 : p_e1) {p_e2 : Prop} (e2 : p_e2) {p_e3 : Prop} (e3 : p_e3) {p_e4 : Prop} (e4 : p_e4) {p_e5 : Prop} (e5 : p_e5) {p_e6 : Prop} (e6 : p_e6) {p_e7 : Prop} (e7 : p_e7) {p_k1 : Prop} (k1 : p_k1) {p_k2 : Prop} (k2 : p_k2) {p q : Prop} (hq : q) (h : p_e1 → p_e2 → p_e3 → p_e4 → p_e5 → p_e6 → p_e7 → p_k1 → p_k2 → Hide q → p := by intro e1 e2 e3 e4 e5 e6 e7 k1 k2; intro hq; (repeat' (first | refine W_seq ?_ | refine W_skip ?_ | refine W_block ?_ | (refine W_exit ?_; first | refine pick_pos rfl ?_ | (refine pick_neg rfl ?_; first | refine pick_pos rfl ?_ | (refine pick_neg rfl ?_; refine pick_pos rfl ?_))) | (refine W_regP fun K hK => ?_; simp [e1, e2, e3, e4, e5, e6, e7]) | (refine W_regPD fun K hK => ?_; simp [e1, e2, e3, e4, e5, e6, e7]) | (with_reducible refine hK _ ?_; clear hK K) | (with_reducible refine callQ (k1) ?_; simp [e1, e2, e3, e4, e5, e6, e7]) | (with_reducible refine callQ (k2) ?_; simp [e1, e2, e3, e4, e5, e6, e7]) | (with_reducible refine goL_split (fun h => ?_) (fun h => ?_) <;> first | (exfalso; simp at h; done) | (exfalso; simp at h; omega) | (exfalso; simp at h; contradiction) | ((try simp at h); simp [e1, e2, e3, e4, e5, e6, e7])) | with_reducible refine And.intro ?_ ?_ | with_reducible exact okay_rfl rfl | with_reducible assumption | (refine W_cond rfl (fun h => ?_) (fun h => ?_) <;> first | (exfalso; simp at h; done) | (exfalso; simp at h; omega) | (exfalso; simp at h; contradiction) | (exfalso; simp_all; done) | (try simp at h)) | (refine W_ret ?_; simp [Fin, e1, e2, e3, e4, e5, e6, e7]) | omega)); exact hq.out) : p := h e1 e2 e3 e4 e5 e6 e7 k1 k2 ⟨hq⟩
theorem u_50 {p_e1 : Prop} (e1 : p_e1) {p_e2 : Prop} (e2 : p_e2) {p_e3 : Prop} (e3 : p_e3) {p_e4 : Prop} (e4 : p_e4) {p_e5 : Prop} (e5 : p_e5) {p_e6 : Prop} (e6 : p_e6) {p_e7 : Prop} (e7 : p_e7) {p_e8 : Prop} (e8 : p_e8) {p_k1 : Prop} (k1 : p_k1) {p_k2 : Prop} (k2 : p_k2) {p q : Prop} (hq : q) (h : p_e1 → p_e2 → p_e3 → p_e4 → p_e5 → p_e6 → p_e7 → p_e8 → p_k1 → p_k2 → Hide q → p := by intro e1 e2 e3 e4 e5 e6 e7 e8 k1 k2; intro hq; (repeat' (first | refine W_seq ?_ | refine W_skip ?_ | refine W_block ?_ | (refine W_exit ?_; first | refine pick_pos rfl ?_ | (refine pick_neg rfl ?_; first | refine pick_pos rfl ?_ | (refine pick_neg rfl ?_; refine pick_pos rfl ?_))) | (refine W_regP fun K hK => ?_; simp [e1, e2, e3, e4, e5, e6, e7, e8]) | (refine W_regPD fun K hK => ?_; simp [e1, e2, e3, e4, e5, e6, e7, e8]) | (with_reducible refine hK _ ?_; clear hK K) | (with_reducible refine callQ (k1) ?_; simp [e1, e2, e3, e4, e5, e6, e7, e8]) | (with_reducible refine callQ (k2) ?_; simp [e1, e2, e3, e4, e5, e6, e7, e8]) | (with_reducible refine goL_split (fun h => ?_) (fun h => ?_) <;> first | (exfalso; simp at h; done) | (exfalso; simp at h; omega) | (exfalso; simp at h; contradiction) | ((try simp at h); simp [e1, e2, e3, e4, e5, e6, e7, e8])) | with_reducible refine And.intro ?_ ?_ | with_reducible exact okay_rfl rfl | with_reducible assumption | (refine W_cond rfl (fun h => ?_) (fun h => ?_) <;> first | (exfalso; simp at h; done) | (exfalso; simp at h; omega) | (exfalso; simp at h; contradiction) | (exfalso; simp_all; done) | (try simp at h)) | (refine W_ret ?_; simp [Fin, e1, e2, e3, e4, e5, e6, e7, e8]) | omega)); exact hq.out) : p := h e1 e2 e3 e4 e5 e6 e7 e8 k1 k2 ⟨hq⟩
theorem u_51 {p_e1 : Prop} (e1 : p_e1) {p_e2 : Prop} (e2 : p_e2) {p_e3 : Prop} (e3 : p_e3) {p_e4 : Prop} (e4 : p_e4) {p_e5 : Prop} (e5 : p_e5) {p_e6 : Prop} (e6 : p_e6) {p_e7 : Prop} (e7 : p_e7) {p_e8 : Prop} (e8 : p_e8) {p_k1 : Prop} (k1 : p_k1) {p_k2 : Prop} (k2 : p_k2) {p : Prop} (h : p_e1 → p_e2 → p_e3 → p_e4 → p_e5 → p_e6 → p_e7 → p_e8 → p_k1 → p_k2 → p := by intro e1 e2 e3 e4 e5 e6 e7 e8 k1 k2; repeat' (first | refine W_seq ?_ | refine W_skip ?_ | refine W_block ?_ | (refine W_exit ?_; first | refine pick_pos rfl ?_ | (refine pick_neg rfl ?_; first | refine pick_pos rfl ?_ | (refine pick_neg rfl ?_; refine pick_pos rfl ?_))) | (refine W_regP fun K hK => ?_; simp [e1, e2, e3, e4, e5, e6, e7, e8]) | (refine W_regPD fun K hK => ?_; simp [e1, e2, e3, e4, e5, e6, e7, e8]) | (with_reducible refine hK _ ?_; clear hK K) | (with_reducible refine callQ (k1) ?_; simp [e1, e2, e3, e4, e5, e6, e7, e8]) | (with_reducible refine callQ (k2) ?_; simp [e1, e2, e3, e4, e5, e6, e7, e8]) | (with_reducible refine goL_split (fun h => ?_) (fun h => ?_) <;> first | (exfalso; simp at h; done) | (exfalso; simp at h; omega) | (exfalso; simp at h; contradiction) | ((try simp at h); simp [e1, e2, e3, e4, e5, e6, e7, e8])) | with_reducible refine And.intro ?_ ?_ | with_reducible exact okay_rfl rfl | with_reducible assumption | (refine W_cond rfl (fun h => ?_) (fun h => ?_) <;> first | (exfalso; simp at h; done) | (exfalso; simp at h; omega) | (exfalso; simp at h; contradiction) | (exfalso; simp_all; done) | (try simp at h)) | (refine W_ret ?_; simp [Fin, e1, e2, e3, e4, e5, e6, e7, e8]) | omega)) : p := h e1 e2 e3 e4 e5 e6 e7 e8 k1 k2
theorem u_52 {p_k1 : Prop} (k1 : p_k1) {p_k2 : Prop} (k2 : p_k2) {p_k3 : Prop} (k3 : p_k3) {p_k4 : Prop} (k4 : p_k4) {p_k5 : Prop} (k5 : p_k5) {p_k6 : Prop} (k6 : p_k6) {P : Program} {vl : List Nat} {nt : Nat × List Nat} {V : FuncId → List C → C → List (Option C) → Prop} {ops : List AOper} {st : St} {Kn : St → Prop} {Ke : Nat → St → Prop} {Kr : St → Prop} (r : Nat) (b : Bool) (hn : Kn ⟨[], put st.vars r (.d (.bool b)), st.objs, st.nx + 64 * ops.length⟩) (h : p_k1 → p_k2 → p_k3 → p_k4 → p_k5 → p_k6 → ∀ K : St → Prop, (∀ t tm, t = b → K ⟨tm, put st.vars r (.d (.bool t)), st.objs, st.nx⟩) → regS V st.nx 0 ops st K := by intro k1 k2 k3 k4 k5 k6; intro K hK; simp; repeat' (first | exact hK _ _ (by clear hK; first | omega | (exact decide_eq_false (by omega)) | (exact decide_eq_true (by omega)) | (exact (decide_eq_true (by omega)).symm) | (exact (decide_eq_false (by omega)).symm) | (exact decide_eq_decide.2 (by omega)) | (simp only [← decide_not]; exact decide_eq_decide.2 (by omega)) | (simp [*]; done) | (simp [*]; omega) | (simp_all; done) | (simp_all; omega) | (rw [Bool.eq_iff_iff]; simp at *; omega)) | (with_reducible refine callQ (k1) ?_; simp) | (with_reducible refine callQ (k2) ?_; simp) | (with_reducible refine callQ (k3) ?_; simp) | (with_reducible refine callQ (k4) ?_; simp) | (with_reducible refine callQ (k5) ?_; simp) | (with_reducible refine callQ (k6) ?_; simp) | (with_reducible refine goL_split (fun _ => ?_) (fun _ => ?_) <;> simp) | with_reducible refine And.intro ?_ ?_ | with_reducible exact okay_rfl rfl | with_reducible assumption | omega)) : W P vl nt V (.reg ops false) st Kn Ke Kr := W_regB r b (h k1 k2 k3 k4 k5 k6) hn
theorem u_53 {p_e1 : Prop} (e1 : p_e1) {p_e2 : Prop} (e2 : p_e2) {p_e3 : Prop} (e3 : p_e3) {p_k1 : Prop} (k1 : p_k1) {p q : Prop} (hq : q) (h : p_e1 → p_e2 → p_e3 → p_k1 → Hide q → p := by intro e1 e2 e3 k1; intro hq; (repeat' (first | refine W_seq ?_ | refine W_skip ?_ | refine W_block ?_ | (refine W_exit ?_; first | refine pick_pos rfl ?_ | (refine pick_neg rfl ?_; first | refine pick_pos rfl ?_ | (refine pick_neg rfl ?_; refine pick_pos rfl ?_))) | (refine W_regP fun K hK => ?_; simp [e1, e2, e3]) | (refine W_regPD fun K hK => ?_; simp [e1, e2, e3]) | (with_reducible refine hK _ ?_; clear hK K) | (with_reducible refine callQ (k1) ?_; simp [e1, e2, e3]) | (with_reducible refine goL_split (fun h => ?_) (fun h => ?_) <;> first | (exfalso; simp at h; done) | (exfalso; simp at h; omega) | (exfalso; simp at h; contradiction) | ((try simp at h); simp [e1, e2, e3])) | with_reducible refine And.intro ?_ ?_ | with_reducible exact okay_rfl rfl | with_reducible assumption | (refine W_cond rfl (fun h => ?_) (fun h => ?_) <;> first | (exfalso; simp at h; done) | (exfalso; simp at h; omega) | (exfalso; simp at h; contradiction) | (exfalso; simp_all; done) | (try simp at h)) | (refine W_ret ?_; simp [Fin, e1, e2, e3]) | omega)); exact hq.out) : p := h e1 e2 e3 k1 ⟨hq⟩
theorem u_54 {p_e1 : Prop} (e1 : p_e1) {p_e2 : Prop} (e2 : p_e2) {p_e3 : Prop} (e3 : p_e3) {p_e4 : Prop} (e4 : p_e4) {p_e5 : Prop} (e5 : p_e5) {p_e6 : Prop} (e6 : p_e6) {p_k1 : Prop} (k1 : p_k1) {p q : Prop} (hq : q) (h : p_e1 → p_e2 → p_e3 → p_e4 → p_e5 → p_e6 → p_k1 → Hide q → p := by intro e1 e2 e3 e4 e5 e6 k1; intro hq; (repeat' (first | refine W_seq ?_ | refine W_skip ?_ | refine W_block ?_ | (refine W_exit ?_; first | refine pick_pos rfl ?_ | (refine pick_neg rfl ?_; first | refine pick_pos rfl ?_ | (refine pick_neg rfl ?_; refine pick_pos rfl ?_))) | (refine W_regP fun K hK => ?_; simp [e1, e2, e3, e4, e5, e6]) | (refine W_regPD fun K hK => ?_; simp [e1, e2, e3, e4, e5, e6]) | (with_reducible refine hK _ ?_; clear hK K) | (with_reducible refine callQ (k1) ?_; simp [e1, e2, e3, e4, e5, e6]) | (with_reducible refine goL_split (fun h => ?_) (fun h => ?_) <;> first | (exfalso; simp at h; done) | (exfalso; simp at h; omega) | (exfalso; simp at h; contradiction) | ((try simp at h); simp [e1, e2, e3, e4, e5, e6])) | with_reducible refine And.intro ?_ ?_ | with_reducible exact okay_rfl rfl | with_reducible assumption | (refine W_cond rfl (fun h => ?_) (fun h => ?_) <;> first | (exfalso; simp at h; done) | (exfalso; simp at h; omega) | (exfalso; simp at h; contradiction) | (exfalso; simp_all; done) | (try simp at h)) | (refine W_ret ?_; simp [Fin, e1, e2, e3, e4, e5, e6]) | omega)); exact hq.out) : p := h e1 e2 e3 e4 e5 e6 k1 ⟨hq⟩
theorem u_55 {p_e1 : Prop} (e1 : p_e1) {p_e2 : Prop} (e2 : p_e2) {p_k1 : Prop} (k1 : p_k1) {p q : Prop} (hq : q) (h : p_e1 → p_e2 → p_k1 → Hide q → p := by intro e1 e2 k1; intro hq; (repeat' (first | refine W_seq ?_ | refine W_skip ?_ | refine W_block ?_ | (refine W_exit ?_; first | refine pick_pos rfl ?_ | (refine pick_neg rfl ?_; first | refine pick_pos rfl ?_ | (refine pick_neg rfl ?_; refine pick_pos rfl ?_))) | (refine W_regP fun K hK => ?_; simp [e1, e2]) | (refine W_regPD fun K hK => ?_; simp [e1, e2]) | (with_reducible refine hK _ ?_; clear hK K) | (with_reducible refine callQ (k1) ?_; simp [e1, e2]) | (with_reducible refine goL_split (fun h => ?_) (fun h => ?_) <;> first | (exfalso; simp at h; done) | (exfalso; simp at h; omega) | (exfalso; simp at h; contradiction) | ((try simp at h); simp [e1, e2])) | with_reducible refine And.intro ?_ ?_ | with_reducible exact okay_rfl rfl | with_reducible assumption | (refine W_cond rfl (fun h => ?_) (fun h => ?_) <;> first | (exfalso; simp at h; done) | (exfalso; simp at h; omega) | (exfalso; simp at h; contradiction) | (exfalso; simp_all; done) | (try simp at h)) | (refine W_ret ?_; simp [Fin, e1, e2]) | omega)); exact hq.out) : p := h e1 e2 k1 ⟨hq⟩
theorem u_56 {p_e1 : Prop} (e1 : p_e1) {p_e2 : Prop} (e2 : p_e2) {p_e3 : Prop} (e3 : p_e3) {p_e4 : Prop} (e4 : p_e4) {p_e5 : Prop} (e5 : p_e5) {p_k1 : Prop} (k1 : p_k1) {p : Prop} (h : p_e1 → p_e2 → p_e3 → p_e4 → p_e5 → p_k1 → p := by intro e1 e2 e3 e4 e5 k1; repeat' (first | refine W_seq ?_ | refine W_skip ?_ | refine W_block ?_ | (refine W_exit ?_; first | refine pick_pos rfl ?_ | (refine pick_neg rfl ?_; first | refine pick_pos rfl ?_ | (refine pick_neg rfl ?_; refine pick_pos rfl ?_))) | (refine W_regP fun K hK => ?_; simp [e1, e2, e3, e4, e5]) | (refine W_regPD fun K hK => ?_; simp [e1, e2, e3, e4, e5]) | (with_reducible refine hK _ ?_; clear hK K) | (with_reducible refine callQ (k1) ?_; simp [e1, e2, e3, e4, e5]) | (with_reducible refine goL_split (fun h => ?_) (fun h => ?_) <;> first | (exfalso; simp at h; done) | (exfalso; simp at h; omega) | (exfalso; simp at h; contradiction) | ((try simp at h); simp [e1, e2, e3, e4, e5])) | with_reducible refine And.intro ?_ ?_ | with_reducible exact okay_rfl rfl | with_reducible assumption | (refine W_cond rfl (fun h => ?_) (fun h => ?_) <;> first | (exfalso; simp at h; done) | (exfalso; simp at h; omega) | (exfalso; simp at h; contradiction) | (exfalso; simp_all; done) | (try simp at h)) | (refine W_ret ?_; simp [Fin, e1, e2, e3, e4, e5]) | omega)) : p := h e1 e2 e3 e4 e5 k1
theorem u_57 {p_e1 : Prop} (e1 : p_e1) {p_e2 : Prop} (e2 : p_e2) {p_e3 : Prop} (e3 : p_e3) {p_e4 : Prop} (e4 : p_e4) {p_e5 : Prop} (e5 : p_e5) {p_k1 : Prop} (k1 : p_k1) {p q : Prop} (hq : q) (h : p_e1 → p_e2 → p_e3 → p_e4 → p_e5 → p_k1 → Hide q → p := by intro e1 e2 e3 e4 e5 k1; intro hq; (repeat' (first | refine W_seq ?_ | refine W_skip ?_ | refine W_block ?_ | (refine W_exit ?_; first | refine pick_pos rfl ?_ | (refine pick_neg rfl ?_; first | refine pick_pos rfl ?_ | (refine pick_neg rfl ?_; refine pick_pos rfl ?_))) | (refine W_regP fun K hK => ?_; simp [e1, e2, e3, e4, e5]) | (refine W_regPD fun K hK => ?_; simp [e1, e2, e3, e4, e5]) | (with_reducible refine hK _ ?_; clear hK K) | (with_reducible refine callQ (k1) ?_; simp [e1, e2, e3, e4, e5]) | (with_reducible refine goL_split (fun h => ?_) (fun h => ?_) <;> first | (exfalso; simp at h; done) | (exfalso; simp at h; omega) | (exfalso; simp at h; contradiction) | ((try simp at h); simp [e1, e2, e3, e4, e5])) | with_reducible refine And.intro ?_ ?_ | with_reducible exact okay_rfl rfl | with_reducible assumption | (refine W_cond rfl (fun h => ?_) (fun h => ?_) <;> first | (exfalso; simp at h; done) | (exfalso; simp at h; omega) | (exfalso; simp at h; contradiction) | (exfalso; simp_all; done) | (try simp at h)) | (refine W_ret ?_; simp [Fin, e1, e2, e3, e4, e5]) | omega)); exact hq.out) : p := h e1 e2 e3 e4 e5 k1 ⟨hq⟩
theorem u_58 {p_e1 : Prop} (e1 : p_e1) {p_k1 : Prop} (k1 : p_k1) {p_k2 : Prop} (k2 : p_k2) {p : Prop} (h : p_e1 → p_k1 → p_k2 → p := by intro e1 k1 k2; repeat' (first | refine W_seq ?_ | refine W_skip ?_ | refine W_block ?_ | (refine W_exit ?_; first | refine pick_pos rfl ?_ | (refine pick_neg rfl ?_; first | refine pick_pos rfl ?_ | (refine pick_neg rfl ?_; refine pick_pos rfl ?_))) | (refine W_regP fun K hK => ?_; simp [e1]) | (refine W_regPD fun K hK => ?_; simp [e1]) | (with_reducible refine hK _ ?_; clear hK K) | (with_reducible refine callQ (k1) ?_; simp [e1]) | (with_reducible refine callQ (k2) ?_; simp [e1]) | (with_reducible refine goL_split (fun h => ?_) (fun h => ?_) <;> first | (exfalso; simp at h; done) | (exfalso; simp at h; omega) | (exfalso; simp at h; contradiction) | ((try simp at h); simp [e1])) | with_reducible refine And.intro ?_ ?_ | with_reducible exact okay_rfl rfl | with_reducible assumption | (refine W_cond rfl (fun h => ?_) (fun h => ?_) <;> first | (exfalso; simp at h; done) | (exfalso; simp at h; omega) | (exfalso; simp at h; contradiction) | (exfalso; simp_all; done) | (try simp at h)) | (refine W_ret ?_; simp [Fin, e1]) | omega)) : p := h e1 k1 k2
theorem u_59 {p_e1 : Prop} (e1 : p_e1) {p_k1 : Prop} (k1 : p_k1) {p_k2 : Prop} (k2 : p_k2) {p q : Prop} (hq : q) (h : p_e1 → p_k1 → p_k2 → Hide q → p := by intro e1 k1 k2; intro hq; (repeat' (first | refine W_seq ?_ | refine W_skip ?_ | refine W_block ?_ | (refine W_exit ?_; first | refine pick_pos rfl ?_ | (refine pick_neg rfl ?_; first | refine pick_pos rfl ?_ | (refine pick_neg rfl ?_; refine pick_pos rfl ?_))) | (refine W_regP fun K hK => ?_; simp [e1]) | (refine W_regPD fun K hK => ?_; simp [e1]) | (with_reducible refine hK _ ?_; clear hK K) | (with_reducible refine callQ (k1) ?_; simp [e1]) | (with_reducible refine callQ (k2) ?_; simp [e1]) | (with_reducible refine goL_split (fun h => ?_) (fun h => ?_) <;> first | (exfalso; simp at h; done) | (exfalso; simp at h; omega) | (exfalso; simp at h; contradiction) | ((try simp at h); simp [e1])) | with_reducible refine And.intro ?_ ?_ | with_reducible exact okay_rfl rfl | with_reducible assumption | (refine W_cond rfl (fun h => ?_) (fun h => ?_) <;> first | (exfalso; simp at h; done) | (exfalso; simp at h; omega) | (exfalso; simp at h; contradiction) | (exfalso; simp_all; done) | (try simp at h)) | (refine W_ret ?_; simp [Fin, e1]) | omega)); exact hq.out) : p := h e1 k1 k2 ⟨hq⟩
theorem u_60 {p_e1 : Prop} (e1 : p_e1) {p_k1 : Prop} (k1 : p_k1) {p_k2 : Prop} (k2 : p_k2) {p_k3 : Prop} (k3 : p_k3) {p : Prop} (h : p_e1 → p_k1 → p_k2 → p_k3 → p := by intro e1 k1 k2 k3; repeat' (first | refine W_seq ?_ | refine W_skip ?_ | refine W_block ?_ | (refine W_exit ?_; first | refine pick_pos rfl ?_ | (refine pick_neg rfl ?_; first | refine pick_pos rfl ?_ | (refine pick_neg rfl ?_; refine pick_pos rfl ?_))) | (refine W_regP fun K hK => ?_; simp [e1]) | (refine W_regPD fun K hK => ?_; simp [e1]) | (with_reducible refine hK _ ?_; clear hK K) | (with_reducible refine callQ (k1) ?_; simp [e1]) | (with_reducible refine callQ (k2) ?_; simp [e1]) | (with_reducible refine callQ (k3) ?_; simp [e1]) | (with_reducible refine goL_split (fun h => ?_) (fun h => ?_) <;> first | (exfalso; simp at h; done) | (exfalso; simp at h; omega) | (exfalso; simp at h; contradiction) | ((try simp at h); simp [e1])) | with_reducible refine And.intro ?_ ?_ | with_reducible exact okay_rfl rfl | with_reducible assumption | (refine W_cond rfl (fun h => ?_) (fun h => ?_) <;> first | (exfalso; simp at h; done) | (exfalso; simp at h; omega) | (exfalso; simp at h; contradiction) | (exfalso; simp_all; done) | (try simp at h)) | (refine W_ret ?_; simp [Fin, e1]) | omega)) : p := h e1 k1 k2 k3
theorem u_61 {p_e1 : Prop} (e1 : p_e1) {p_e2 : Prop} (e2 : p_e2) {p_k1 : Prop} (k1 : p_k1) {p_k2 : Prop} (k2 : p_k2) {p_k3 : Prop} (k3 : p_k3) {p_k4 : Prop} (k4 : p_k4) {p q : Prop} (hq : q) (h : p_e1 → p_e2 → p_k1 → p_k2 → p_k3 → p_k4 → Hide q → p := by intro e1 e2 k1 k2 k3 k4; intro hq; (repeat' (first | refine W_seq ?_ | refine W_skip ?_ | refine W_block ?_ | (refine W_exit ?_; first | refine pick_pos rfl ?_ | (refine pick_neg rfl ?_; first | refine pick_pos rfl ?_ | (refine pick_neg rfl ?_; refine pick_pos rfl ?_))) | (refine W_regP fun K hK => ?_; simp [e1, e2]) | (refine W_regPD fun K hK => ?_; simp [e1, e2]) | (with_reducible refine hK _ ?_; clear hK K) | (with_reducible refine callQ (k1) ?_; simp [e1, e2]) | (with_reducible refine callQ (k2) ?_; simp [e1, e2]) | (with_reducible refine callQ (k3) ?_; simp [e1, e2]) | (with_reducible refine callQ (k4) ?_; simp [e1, e2]) | (with_reducible refine goL_split (fun h => ?_) (fun h => ?_) <;> first | (exfalso; simp at h; done) | (exfalso; simp at h; omega) | (exfalso; simp at h; contradiction) | ((try simp at h); simp [e1, e2])) | with_reducible refine And.intro ?_ ?_ | with_reducible exact okay_rfl rfl | with_reducible assumption | (refine W_cond rfl (fun h => ?_) (fun h => ?_) <;> first | (exfalso; simp at h; done) | (exfalso; simp at h; omega) | (exfalso; simp at h; contradiction) | (exfalso; simp_all; done) | (try simp at h)) | (refine W_ret ?_; simp [Fin, e1, e2]) | omega)); exact hq.out) : p := h e1 e2 k1 k2 k3 k4 ⟨hq⟩
theorem u_62 {p_e1 : Prop} (e1 : p_e1) {p_e2 : Prop} (e2 : p_e2) {p_k1 : Prop} (k1 : p_k1) {p_k2 : Prop} (k2 : p_k2) {p_k3 : Prop} (k3 : p_k3) {p_k4 : Prop} (k4 : p_k4) {p : Prop} (h : p_e1 → p_e2 → p_k1 → p_k2 → p_k3 → p_k4 → p := by intro e1 e2 k1 k2 k3 k4; repeat' (first | refine W_seq ?_ | refine W_skip ?_ | refine W_block ?_ | (refine W_exit ?_; first | refine pick_pos rfl ?_ | (refine pick_neg rfl ?_; first | refine pick_pos rfl ?_ | (refine pick_neg rfl ?_; refine pick_pos rfl ?_))) | (refine W_regP fun K hK => ?_; simp [e1, e2]) | (refine W_regPD fun K hK => ?_; simp [e1, e2]) | (with_reducible refine hK _ ?_; clear hK K) | (with_reducible refine callQ (k1) ?_; simp [e1, e2]) | (with_reducible refine callQ (k2) ?_; simp [e1, e2]) | (with_reducible refine callQ (k3) ?_; simp [e1, e2]) | (with_reducible refine callQ (k4) ?_; simp [e1, e2]) | (with_reducible refine goL_split (fun h => ?_) (fun h => ?_) <;> first | (exfalso; simp at h; done) | (exfalso; simp at h; omega) | (exfalso; simp at h; contradiction) | ((try simp at h); simp [e1, e2])) | with_reducible refine And.intro ?_ ?_ | with_reducible exact okay_rfl rfl | with_reducible assumption | (refine W_cond rfl (fun h => ?_) (fun h => ?_) <;> first | (exfalso; simp at h; done) | (exfalso; simp at h; omega) | (exfalso; simp at h; contradiction) | (exfalso; simp_all; done) | (try simp at h)) | (refine W_ret ?_; simp [Fin, e1, e2]) | omega)) : p := h e1 e2 k1 k2 k3 k4
theorem u_63 {p_e1 : Prop} (e1 : p_e1) {p_k1 : Prop} (k1 : p_k1) {p_k2 : Prop} (k2 : p_k2) {p_k3 : Prop} (k3 : p_k3) {p q : Prop} (hq : q) (h : p_e1 → p_k1 → p_k2 → p_k3 → Hide q → p := by intro e1 k1 k2 k3; intro hq; (repeat' (first | refine W_seq ?_ | refine W_skip ?_ | refine W_block ?_ | (refine W_exit ?_; first | refine pick_pos rfl ?_ | (refine pick_neg rfl ?_; first | refine pick_pos rfl ?_ | (refine pick_neg rfl ?_; refine pick_pos rfl ?_))) | (refine W_regP fun K hK => ?_; simp [e1]) | (refine W_regPD fun K hK => ?_; simp [e1]) | (with_reducible refine hK _ ?_; clear hK K) | (with_reducible refine callQ (k1) ?_; simp [e1]) | (with_reducible refine callQ (k2) ?_; simp [e1]) | (with_reducible refine callQ (k3) ?_; simp [e1]) | (with_reducible refine goL_split (fun h => ?_) (fun h => ?_) <;> first | (exfalso; simp at h; done) | (exfalso; simp at h; omega) | (exfalso; simp at h; contradiction) | ((try simp at h); simp [e1])) | with_reducible refine And.intro ?_ ?_ | with_reducible exact okay_rfl rfl | with_reducible assumption | (refine W_cond rfl (fun h => ?_) (fun h => ?_) <;> first | (exfalso; simp at h; done) | (exfalso; simp at h; omega) | (exfalso; simp at h; contradiction) | (exfalso; simp_all; done) | (try simp at h)) | (refine W_ret ?_; simp [Fin, e1]) | omega)); exact hq.out) : p := h e1 k1 k2 k3 ⟨hq⟩
theorem u_64 {p_e1 : Prop} (e1 : p_e1) {p_e2 : Prop} (e2 : p_e2) {p_e3 : Prop} (e3 : p_e3) {p : Prop} (h : p_e1 → p_e2 → p_e3 → p := by intro e1 e2 e3; repeat' (first | refine W_seq ?_ | refine W_skip ?_ | refine W_block ?_ | (refine W_exit ?_; first | refine pick_pos rfl ?_ | (refine pick_neg rfl ?_; first | refine pick_pos rfl ?_ | (refine pick_neg rfl ?_; refine pick_pos rfl ?_))) | (refine W_regP fun K hK => ?_; simp [e1, e2, e3]) | (refine W_regPD fun K hK => ?_; simp [e1, e2, e3]) | (with_reducible refine hK _ ?_; clear hK K) | (with_reducible refine goL_split (fun h => ?_) (fun h => ?_) <;> first | (exfalso; simp at h; done) | (exfalso; simp at h; omega) | (exfalso; simp at h; contradiction) | ((try simp at h); simp [e1, e2, e3])) | with_reducible refine And.intro ?_ ?_ | with_reducible exact okay_rfl rfl | with_reducible assumption | (refine W_cond rfl (fun h => ?_) (fun h => ?_) <;> first | (exfalso; simp at h; done) | (exfalso; simp at h; omega) | (exfalso; simp at h; contradiction) | (exfalso; simp_all; done) | (try simp at h)) | (refine W_ret ?_; simp [Fin, e1, e2, e3]) | omega)) : p := h e1 e2 e3
theorem u_65 {p_e1 : Prop} (e1 : p_e1) {p_e2 : Prop} (e2 : p_e2) {p_e3 : Prop} (e3 : p_e3) {p q : Prop} (hq : q) (h : p_e1 → p_e2 → p_e3 → Hide q → p := by intro e1 e2 e3; intro hq; (repeat' (first | refine W_seq ?_ | refine W_skip ?_ | refine W_block ?_ | (refine W_exit ?_; first | refine pick_pos rfl ?_ | (refine pick_neg rfl ?_; first | refine pick_pos rfl ?_ | (refine pick_neg rfl ?_; refine pick_pos rfl ?_))) | (refine W_regP fun K hK => ?_; simp [e1, e2, e3]) | (refine W_regPD fun K hK => ?_; simp [e1, e2, e3]) | (with_reducible refine hK _ ?_; clear hK K) | (with_reducible refine goL_split (fun h => ?_) (fun h => ?_) <;> first | (exfalso; simp at h; done) | (exfalso; simp at h; omega) | (exfalso; simp at h; contradiction) | ((try simp at h); simp [e1, e2, e3])) | with_reducible refine And.intro ?_ ?_ | with_reducible exact okay_rfl rfl | with_reducible assumption | (refine W_cond rfl (fun h => ?_) (fun h => ?_) <;> first | (exfalso; simp at h; done) | (exfalso; simp at h; omega) | (exfalso; simp at h; contradiction) | (exfalso; simp_all; done) | (try simp at h)) | (refine W_ret ?_; simp [Fin, e1, e2, e3]) | omega)); exact hq.out) : p := h e1 e2 e3 ⟨hq⟩
theorem u_66 {p_k1 : Prop} (k1 : p_k1) {p_k2 : Prop} (k2 : p_k2) {p_k3 : Prop} (k3 : p_k3) {p_k4 : Prop} (k4 : p_k4) {p_k5 : Prop} (k5 : p_k5) {p_k6 : Prop} (k6 : p_k6) {p_k7 : Prop} (k7 : p_k7) {P : Program} {vl : List Nat} {nt : Nat × List Nat} {V : FuncId → List C → C → List (Option C) → Prop} {ops : List AOper} {st : St} {Kn : St → Prop} {Ke : Nat → St → Prop} {Kr : St → Prop} (r : Nat) (b : Bool) (hn : Kn ⟨[], put st.vars r (.d (.bool b)), st.objs, st.nx + 64 * ops.length⟩) (h : p_k1 → p_k2 → p_k3 → p_k4 → p_k5 → p_k6 → p_k7 → ∀ K : St → Prop, (∀ t tm, t = b → K ⟨tm, put st.vars r (.d (.bool t)), st.objs, st.nx⟩) → regS V st.nx 0 ops st K := by intro k1 k2 k3 k4 k5 k6 k7; intro K hK; simp; repeat' (first | exact hK _ _ (by clear hK; first | omega | (exact decide_eq_false (by omega)) | (exact decide_eq_true (by omega)) | (exact (decide_eq_true (by omega)).symm) | (exact (decide_eq_false (by omega)).symm) | (exact decide_eq_decide.2 (by omega)) | (simp only [← decide_not]; exact decide_eq_decide.2 (by omega)) | (simp [*]; done) | (simp [*]; omega) | (simp_all; done) | (simp_all; omega) | (rw [Bool.eq_iff_iff]; simp at *; omega)) | (with_reducible refine callQ (k1) ?_; simp) | (with_reducible refine callQ (k2) ?_; simp) | (with_reducible refine callQ (k3) ?_; simp) | (with_reducible refine callQ (k4) ?_; simp) | (with_reducible refine callQ (k5) ?_; simp) | (with_reducible refine callQ (k6) ?_; simp) | (with_reducible refine callQ (k7) ?_; simp) | (with_reducible refine goL_split (fun _ => ?_) (fun _ => ?_) <;> simp) | with_reducible refine And.intro ?_ ?_ | with_reducible exact okay_rfl rfl | with_reducible assumption | omega)) : W P vl nt V (.reg ops false) st Kn Ke Kr := W_regB r b (h k1 k2 k3 k4 k5 k6 k7) hn
theorem u_67 {p_k1 : Prop} (k1 : p_k1) {p : Prop} (h : p_k1 → p := by intro k1; repeat' (first | refine W_seq ?_ | refine W_skip ?_ | refine W_block ?_ | (refine W_exit ?_; first | refine pick_pos rfl ?_ | (refine pick_neg rfl ?_; first | refine pick_pos rfl ?_ | (refine pick_neg rfl ?_; refine pick_pos rfl ?_))) | (refine W_regP fun K hK => ?_; simp [zLease]) | (refine W_regPD fun K hK => ?_; simp [zLease]) | (with_reducible refine hK _ ?_; clear hK K) | (with_reducible refine callQ (k1) ?_; simp [zLease]) | (with_reducible refine goL_split (fun h => ?_) (fun h => ?_) <;> first | (exfalso; simp at h; done) | (exfalso; simp at h; omega) | (exfalso; simp at h; contradiction) | ((try simp at h); simp [zLease])) | with_reducible refine And.intro ?_ ?_ | with_reducible exact okay_rfl rfl | with_reducible assumption | (refine W_cond rfl (fun h => ?_) (fun h => ?_) <;> first | (exfalso; simp at h; done) | (exfalso; simp at h; omega) | (exfalso; simp at h; contradiction) | (exfalso; simp_all; done) | (try simp at h)) | (refine W_ret ?_; simp [Fin, zLease]) | omega)) : p := h k1
theorem u_68 {p_k1 : Prop} (k1 : p_k1) {p q : Prop} (hq : q) (h : p_k1 → Hide q → p := by intro k1; intro hq; (repeat' (first | refine W_seq ?_ | refine W_skip ?_ | refine W_block ?_ | (refine W_exit ?_; first | refine pick_pos rfl ?_ | (refine pick_neg rfl ?_; first | refine pick_pos rfl ?_ | (refine pick_neg rfl ?_; refine pick_pos rfl ?_))) | (refine W_regP fun K hK => ?_; simp) | (refine W_regPD fun K hK => ?_; simp) | (with_reducible refine hK _ ?_; clear hK K) | (with_reducible refine callQ (k1) ?_; simp) | (with_reducible refine goL_split (fun h => ?_) (fun h => ?_) <;> first | (exfalso; simp at h; done) | (exfalso; simp at h; omega) | (exfalso; simp at h; contradiction) | ((try simp at h); simp)) | with_reducible refine And.intro ?_ ?_ | with_reducible exact okay_rfl rfl | with_reducible assumption | (refine W_cond rfl (fun h => ?_) (fun h => ?_) <;> first | (exfalso; simp at h; done) | (exfalso; simp at h; omega) | (exfalso; simp at h; contradiction) | (exfalso; simp_all; done) | (try simp at h)) | (refine W_ret ?_; simp [Fin]) | omega)); exact hq.out) : p := h k1 ⟨hq⟩
theorem u_69 {p : Prop} (h : p := by repeat' (first | refine W_seq ?_ | refine W_skip ?_ | refine W_block ?_ | (refine W_exit ?_; first | refine pick_pos rfl ?_ | (refine pick_neg rfl ?_; first | refine pick_pos rfl ?_ | (refine pick_neg rfl ?_; refine pick_pos rfl ?_))) | (refine W_regP fun K hK => ?_; simp [zLease]) | (refine W_regPD fun K hK => ?_; simp [zLease]) | (with_reducible refine hK _ ?_; clear hK K) | (with_reducible refine goL_split (fun h => ?_) (fun h => ?_) <;> first | (exfalso; simp at h; done) | (exfalso; simp at h; omega) | (exfalso; simp at h; contradiction) | ((try simp at h); simp [zLease])) | with_reducible refine And.intro ?_ ?_ | with_reducible exact okay_rfl rfl | with_reducible assumption | (refine W_cond rfl (fun h => ?_) (fun h => ?_) <;> first | (exfalso; simp at h; done) | (exfalso; simp at h; omega) | (exfalso; simp at h; contradiction) | (exfalso; simp_all; done) | (try simp at h)) | (refine W_ret ?_; simp [Fin, zLease]) | omega)) : p := h
theorem u_70 {p_e1 : Prop} (e1 : p_e1) {p_k1 : Prop} (k1 : p_k1) {P : Program} {vl : List Nat} {nt : Nat × List Nat} {V : FuncId → List C → C → List (Option C) → Prop} {ops : List AOper} {st st' : St} {Kn : St → Prop} {Ke : Nat → St → Prop} {Kr : St → Prop} (hn : Kn ⟨[], st'.vars, st'.objs, st.nx + 64 * ops.length⟩) (h : p_e1 → p_k1 → ∀ K : St → Prop, K st' → regD V st.nx 0 ops [] true st K := by intro e1 k1; intro K hK; simp [e1]; repeat' (first | with_reducible exact hK | (with_reducible refine callQ (k1) ?_; simp [e1]) | (with_reducible refine goL_split (fun _ => ?_) (fun _ => ?_) <;> simp [e1]) | with_reducible refine And.intro ?_ ?_ | with_reducible exact okay_rfl rfl | with_reducible assumption | omega)) : W P vl nt V (.reg ops true) st Kn Ke Kr := W_regD (h e1 k1) hn
theorem u_71 {p_e1 : Prop} (e1 : p_e1) {p_e2 : Prop} (e2 : p_e2) {p_e3 : Prop} (e3 : p_e3) {p_e4 : Prop} (e4 : p_e4) {p : Prop} (h : p_e1 → p_e2 → p_e3 → p_e4 → p := by intro e1 e2 e3 e4; repeat' (first | refine W_seq ?_ | refine W_skip ?_ | refine W_block ?_ | (refine W_exit ?_; first | refine pick_pos rfl ?_ | (refine pick_neg rfl ?_; first | refine pick_pos rfl ?_ | (refine pick_neg rfl ?_; refine pick_pos rfl ?_))) | (refine W_regP fun K hK => ?_; simp [e1, e2, e3, e4]) | (refine W_regPD fun K hK => ?_; simp [e1, e2, e3, e4]) | (with_reducible refine hK _ ?_; clear hK K) | (with_reducible refine goL_split (fun h => ?_) (fun h => ?_) <;> first | (exfalso; simp at h; done) | (exfalso; simp at h; omega) | (exfalso; simp at h; contradiction) | ((try simp at h); simp [e1, e2, e3, e4])) | with_reducible refine And.intro ?_ ?_ | with_reducible exact okay_rfl rfl | with_reducible assumption | (refine W_cond rfl (fun h => ?_) (fun h => ?_) <;> first | (exfalso; simp at h; done) | (exfalso; simp at h; omega) | (exfalso; simp at h; contradiction) | (exfalso; simp_all; done) | (try simp at h)) | (refine W_ret ?_; simp [Fin, e1, e2, e3, e4]) | omega)) : p := h e1 e2 e3 e4
theorem u_72 {p_e1 : Prop} (e1 : p_e1) {p_e2 : Prop} (e2 : p_e2) {p_e3 : Prop} (e3 : p_e3) {p_e4 : Prop} (e4 : p_e4) {p q : Prop} (hq : q) (h : p_e1 → p_e2 → p_e3 → p_e4 → Hide q → p := by intro e1 e2 e3 e4; intro hq; (repeat' (first | refine W_seq ?_ | refine W_skip ?_ | refine W_block ?_ | (refine W_exit ?_; first | refine pick_pos rfl ?_ | (refine pick_neg rfl ?_; first | refine pick_pos rfl ?_ | (refine pick_neg rfl ?_; refine pick_pos rfl ?_))) | (refine W_regP fun K hK => ?_; simp [e1, e2, e3, e4]) | (refine W_regPD fun K hK => ?_; simp [e1, e2, e3, e4]) | (with_reducible refine hK _ ?_; clear hK K) | (with_reducible refine goL_split (fun h => ?_) (fun h => ?_) <;> first | (exfalso; simp at h; done) | (exfalso; simp at h; omega) | (exfalso; simp at h; contradiction) | ((try simp at h); simp [e1, e2, e3, e4])) | with_reducible refine And.intro ?_ ?_ | with_reducible exact okay_rfl rfl | with_reducible assumption | (refine W_cond rfl (fun h => ?_) (fun h => ?_) <;> first | (exfalso; simp at h; done) | (exfalso; simp at h; omega) | (exfalso; simp at h; contradiction) | (exfalso; simp_all; done) | (try simp at h)) | (refine W_ret ?_; simp [Fin, e1, e2, e3, e4]) | omega)); exact hq.out) : p := h e1 e2 e3 e4 ⟨hq⟩
theorem u_73 {p_k1 : Prop} (k1 : p_k1) {p_k2 : Prop} (k2 : p_k2) {p_k3 : Prop} (k3 : p_k3) {p_k4 : Prop} (k4 : p_k4) {p_k5 : Prop} (k5 : p_k5) {p : Prop} (h : p_k1 → p_k2 → p_k3 → p_k4 → p_k5 → p := by intro k1 k2 k3 k4 k5; repeat' (first | refine W_seq ?_ | refine W_skip ?_ | refine W_block ?_ | (refine W_exit ?_; first | refine pick_pos rfl ?_ | (refine pick_neg rfl ?_; first | refine pick_pos rfl ?_ | (refine pick_neg rfl ?_; refine pick_pos rfl ?_))) | (refine W_regP fun K hK => ?_; simp) | (refine W_regPD fun K hK => ?_; simp) | (with_reducible refine hK _ ?_; clear hK K) | (with_reducible refine callQ (k1) ?_; simp) | (with_reducible refine callQ (k2) ?_; simp) | (with_reducible refine callQ (k3) ?_; simp) | (with_reducible refine callQ (k4) ?_; simp) | (with_reducible refine callQ (k5) ?_; simp) | (with_reducible refine goL_split (fun h => ?_) (fun h => ?_) <;> first | (exfalso; simp at h; done) | (exfalso; simp at h; omega) | (exfalso; simp at h; contradiction) | ((try simp at h); simp)) | with_reducible refine And.intro ?_ ?_ | with_reducible exact okay_rfl rfl | with_reducible assumption | (refine W_cond rfl (fun h => ?_) (fun h => ?_) <;> first | (exfalso; simp at h; done) | (exfalso; simp at h; omega) | (exfalso; simp at h; contradiction) | (exfalso; simp_all; done) | (try simp at h)) | (refine W_ret ?_; simp [Fin]) | omega)) : p := h k1 k2 k3 k4 k5

theorem wrap_id {n : Int} (h1 : -9223372036854775808 ≤ n) (h2 : n ≤ 9223372036854775807) : IntKind.i64.wrap n = n := by
  rw [IntKind.wrap_i64]; omega

theorem take_succ_eq {α : Type} {a b : List α} {i : Nat} {x : α} (h : a.take i = b.take i) (ha : a[i]? = some x) (hb : b[i]? = some x) : a.take (i + 1) = b.take (i + 1) := by
  rw [List.take_add_one, List.take_add_one, h, ha, hb]

theorem row_one {R : List (List D)} {i : Nat} (h : ∀ r, r ∈ R → r.length = 1) (hi : i < R.length) : ∃ d, R[i]? = some [d] := by
  have := h _ (List.getElem_mem hi)
  rw [List.length_eq_one_iff] at this
  obtain ⟨d, hd⟩ := this
  exact ⟨d, by rw [List.getElem?_eq_getElem hi, hd]⟩

theorem set_one {R : List (List D)} {i : Nat} {d : D} (h : ∀ r, r ∈ R → r.length = 1) : ∀ r, r ∈ R.set i [d] → r.length = 1 := by
  intro r hr
  rcases List.mem_or_eq_of_mem_set hr with h1 | h1
  · exact h r h1
  · subst h1; rfl

theorem take_set_succ {R : List (List D)} {i : Nat} {r : List D} (hi : i < R.length) : (R.set i r).take (i + 1) = R.take i ++ [r] := by
  rw [List.take_add_one, List.take_set_of_le (Nat.le_refl _)]
  simp [hi]

theorem eqStringS_ok (a b : List (List UInt8)) (hsz : a.length ≤ 281474976710656) : Valid PP GG F_L_eqStringS [.d (.slc 1 (strsD a)), .d (.slc 1 (strsD b))] (.d (.bool (a == b))) [none, none] := by
  refine v_L_eqStringS [.d (.bool (a == b))] rfl rfl ?_
  refine W_seq (?_)
  refine u_1 ?_
  refine W_seq (W_seq (?_))
  refine u_1 ?_
  refine W_cond rfl (fun h => W_seq ?_) (fun hlen => W_skip ?_)
  · refine u_1 ?_
    have : (a == b) = false := by simp at h ⊢; intro e; subst e; exact h rfl
    refine W_ret ?_
    simp [Fin, this]
    all_goals omega
  refine W_seq (W_seq (?_))
  simp at hlen
  refine u_1 ?_
  refine W_block (W_loop (fun n st => ∃ i : Nat, n = a.length - i ∧ i ≤ a.length ∧ a.take i = b.take i ∧ st = ⟨[], [(0, .d (.slc 1 (strsD a))), (1, .d (.slc 1 (strsD b))), (5, .d (.int .i64 i))], [], 0⟩) _ ⟨0, rfl, by omega, rfl, rfl⟩ ?_)
  rintro n st ⟨i, rfl, hi, he, rfl⟩
  refine W_seq (W_seq (?_))
  refine u_1 ?_
  refine W_cond rfl (fun h => W_skip ?_) (fun h => W_exit ?_)
  · simp at h
    have ha := List.getElem?_eq_getElem h
    have hb := List.getElem?_eq_getElem (show i < b.length by omega)
    generalize a[i] = x at ha
    generalize b[i]'_ = y at hb
    refine W_seq (W_block (W_seq ?_))
    refine u_2 ha hb ?_
    refine W_cond rfl (fun h2 => W_seq ?_) (fun h2 => W_skip ?_)
    · refine u_1 ?_
      have : (a == b) = false := by simp; intro e; subst e; simp [ha] at hb; subst hb; simp at h2
      refine W_ret ?_
      simp [Fin, this]
      all_goals omega
    refine u_1 ?_
    have hxy : x = y := by simpa using h2
    subst hxy
    exact ⟨a.length - (i + 1), by omega, i + 1, rfl, h, take_succ_eq he ha hb, by simp [gc, closeN, liveA, gcV, gcO, renA, namesAs, namesA]; rw [wrap_id (by omega) (by omega)]⟩
  · simp at h
    rw [if_pos rfl]
    refine W_seq (?_)
    refine u_1 ?_
    have : (a == b) = true := by
      simp
      rwa [List.take_of_length_le h, List.take_of_length_le (by omega)] at he
    refine W_ret ?_
    simp [Fin, this]
    all_goals omega

theorem strsD_succ {a : List (List UInt8)} {i : Nat} {x : (List UInt8)} (ha : a[i]? = some x) : strsD (a.take (i + 1)) = strsD (a.take i) ++ [[.str x]] := by
  rw [List.take_add_one, ha]; simp [strsD]

theorem toStringS_ok (a : List (List UInt8)) (hsz : a.length * 16 ≤ 140737488355328) : Valid PP GG F_L_toStringS [.d (.slc 1 (strsD a))] (.own 0 1 (strsD a)) [none] := by
  refine v_L_toStringS [.own 0 1 (strsD a)] rfl rfl ?_
  refine W_seq (?_)
  refine u_1 ?_
  refine W_seq (?_)
  refine u_3 ?_
  refine W_seq (W_seq (?_))
  refine u_1 ?_
  refine W_block (W_loop (fun n st => ∃ (i : Nat) (R : List (List D)), n = a.length - i ∧ i ≤ a.length ∧ R.length = a.length ∧ (∀ r, r ∈ R → r.length = 1) ∧ R.take i = strsD (a.take i) ∧
    st = ⟨[], [(0, .d (.slc 1 (strsD a))), (3, .sl 0), (4, .d (.int .i64 i))], [(0, .arr 0 0 1 R)], 1⟩) _ ⟨0, List.replicate a.length [.str []], rfl, by omega, by simp, by simp, rfl, rfl⟩ ?_)
  rintro n st ⟨i, R, rfl, hi, hl, h1, hR, rfl⟩
  refine W_seq (W_seq (?_))
  refine u_1 ?_
  refine W_cond rfl (fun h => W_skip ?_) (fun h => W_exit ?_)
  · simp at h
    have ha := List.getElem?_eq_getElem h
    generalize a[i] = x at ha
    obtain ⟨d, hd⟩ := row_one h1 (show i < R.length by omega)
    refine W_seq (W_block ?_)
    refine u_4 ha hd hl ?_
    refine u_1 ?_
    exact ⟨a.length - (i + 1), by omega, i + 1, R.set i [.str x], rfl, h, by simpa using hl, set_one h1, by rw [take_set_succ (by omega), hR, strsD_succ ha],
      by simp [gc, closeN, liveA, gcV, gcO, renA, renO, namesAs, namesA, namesO, posn]; rw [wrap_id (by omega) (by omega)]⟩
  · simp at h
    have e : R = strsD a := by rwa [List.take_of_length_le (by omega), List.take_of_length_le (by omega)] at hR
    subst e
    rw [if_pos rfl]
    refine W_seq (?_)
    refine u_1 ?_
    refine W_ret ?_
    simp [Fin]
    all_goals omega

theorem l01In_ok (x lo hi : Int) : Valid PP GG F_S_l01In [.d (.int .i64 x), .d (.int .i64 lo), .d (.int .i64 hi)] (.d (.bool (decide (lo ≤ x) && decide (x ≤ hi)))) [none, none, none] := by
  refine v_S_l01In [.d (.bool (decide (lo ≤ x) && decide (x ≤ hi)))] rfl rfl ?_
  refine W_seq (?_)
  refine u_1 ?_
  refine W_seq (?_)
  refine u_5 6 (decide (lo ≤ x) && decide (x ≤ hi)) ?_
  refine W_ret ?_
  simp [Fin]
  all_goals omega

theorem within_ok (x lo hi : Int) : Valid PP GG F_I_within [.d (.int .i64 x), .d (.int .i64 lo), .d (.int .i64 hi)] (.d (.bool (decide (lo ≤ x) && decide (x ≤ hi)))) [none, none, none] := by
  refine v_I_within [.d (.bool (decide (lo ≤ x) && decide (x ≤ hi)))] rfl rfl ?_
  refine W_seq (?_)
  refine u_1 ?_
  refine W_seq (?_)
  refine u_5 6 (decide (lo ≤ x) && decide (x ≤ hi)) ?_
  refine W_ret ?_
  simp [Fin]
  all_goals omega

theorem u8_all {p : UInt8 → Prop} (h : ∀ n : _root_.Fin 256, p (UInt8.ofNat n.val)) (x : UInt8) : p x := by
  have := h ⟨x.toNat, x.toNat_lt⟩
  simpa using this

def sumBy {α : Type} (f : α → Nat) : List α → Nat
  | [] => 0
  | x :: r => f x + sumBy f r

theorem sumBy_append {α : Type} (f : α → Nat) (a b : List α) : sumBy f (a ++ b) = sumBy f a + sumBy f b := by
  induction a with
  | nil => simp [sumBy]
  | cons x a ih => simp [sumBy, ih]; omega

theorem sumBy_succ {α : Type} {f : α → Nat} {a : List α} {i : Nat} {x : α} (h : a[i]? = some x) : sumBy f (a.take (i + 1)) = sumBy f (a.take i) + f x := by
  rw [List.take_add_one, h, sumBy_append]; simp [sumBy]

theorem sumBy_take {α : Type} (f : α → Nat) (a : List α) (i : Nat) : sumBy f (a.take i) ≤ sumBy f a := by
  conv => rhs; rw [← List.take_append_drop i a, sumBy_append]
  omega

theorem sumBy_mem {α : Type} {f : α → Nat} {a : List α} {x : α} (h : x ∈ a) : f x ≤ sumBy f a := by
  induction a with
  | nil => simp at h
  | cons y a ih =>
    rcases List.mem_cons.1 h with rfl | h
    · simp [sumBy]
    · have := ih h; simp [sumBy]; omega

theorem sumBy_get {α : Type} {f : α → Nat} {a : List α} {i : Nat} {x : α} (h : a[i]? = some x) : f x ≤ sumBy f a := sumBy_mem (List.mem_of_getElem? h)

/-- What is left of an allowance. -/
def leftR (c : Nat) (l : Int) : Int := if (c : Int) ≤ l then l - c else -1

theorem leftR_neg {c : Nat} {l : Int} (h0 : 0 ≤ l) (h : leftR c l < 0) : l < c := by unfold leftR at h; split at h <;> omega

theorem leftR_pos {c : Nat} {l : Int} (h : ¬ leftR c l < 0) : (c : Int) ≤ l ∧ leftR c l = l - c := by unfold leftR at h ⊢; split at h <;> simp_all

theorem leftR_yes {c : Nat} {l : Int} (h : (c : Int) ≤ l) : leftR c l = l - c := if_pos h

theorem leftR_no {c : Nat} {l : Int} (h : l < c) : leftR c l = -1 := if_neg (by omega)

theorem drop_get {α : Type} {a : List α} {i : Nat} {x : α} (h : a[i]? = some x) : a.drop i = x :: a.drop (i + 1) := by
  obtain ⟨h1, rfl⟩ := List.getElem?_eq_some_iff.1 h
  exact List.drop_eq_getElem_cons h1

theorem szStringS_g (a : List (List UInt8)) (l : Int) (hlen : a.length ≤ maxLen) (hx : ∀ x, x ∈ a → x.length ≤ maxLen) (h0 : 0 ≤ l ∧ l ≤ 1048576) :
    Valid PP GG F_L_szStringS [.d (.slc 1 (strsD a)), .d (.int .i64 l)] (.d (.int .i64 (leftR (a.length + sumBy List.length a) l))) [none, none] := by
  refine v_L_szStringS [.d (.int .i64 (leftR (a.length + sumBy List.length a) l))] rfl rfl ?_
  unfold maxLen at hlen hx
  obtain ⟨m, hm⟩ : ∃ z : Int, l - a.length = z := ⟨_, rfl⟩
  have hw : IntKind.i64.wrap (l - a.length) = m := by rw [wrap_id (by omega) (by omega)]; exact hm
  refine W_seq (?_)
  refine u_1 ?_
  refine W_seq (?_)
  refine u_6 hw ?_
  refine W_seq (W_seq (?_))
  refine u_1 ?_
  refine W_cond rfl (fun h => W_seq ?_) (fun h => W_skip ?_)
  · refine u_1 ?_
    simp at h
    have : leftR (a.length + sumBy List.length a) l = -1 := leftR_no (by omega)
    refine W_ret ?_
    simp [Fin, this]
    all_goals omega
  simp at h
  refine W_seq (W_seq (?_))
  refine u_1 ?_
  refine W_block (W_loop (fun n st => ∃ (i : Nat) (v : Int), n = a.length - i ∧ i ≤ a.length ∧ 0 ≤ v ∧ v = m - (sumBy List.length (a.take i) : Nat) ∧
    st = ⟨[], [(0, .d (.slc 1 (strsD a))), (1, .d (.int .i64 v)), (5, .d (.int .i64 i))], [], 0⟩) _ ⟨0, m, rfl, by omega, h, by simp [sumBy], rfl⟩ ?_)
  rintro n st ⟨i, v, rfl, hi, hv, he, rfl⟩
  refine W_seq (W_seq (?_))
  refine u_1 ?_
  refine W_cond rfl (fun h2 => W_skip ?_) (fun h2 => W_exit ?_)
  · simp at h2
    have ha := List.getElem?_eq_getElem h2
    generalize a[i] = x at ha
    have hs := sumBy_succ (f := List.length) ha
    have ht := sumBy_take List.length a (i + 1)
    have hxl := hx x (List.mem_of_getElem? ha)
    obtain ⟨v2, hv2⟩ : ∃ z : Int, v - x.length = z := ⟨_, rfl⟩
    have hw2 : IntKind.i64.wrap (v - x.length) = v2 := by rw [wrap_id (by omega) (by omega)]; exact hv2
    refine W_seq (W_block (W_seq ?_))
    refine u_7 ha hw2 ?_
    refine W_seq (?_)
    refine u_1 ?_
    refine W_cond rfl (fun h3 => W_seq ?_) (fun h3 => W_skip ?_)
    · refine u_1 ?_
      simp at h3
      have : leftR (a.length + sumBy List.length a) l = -1 := leftR_no (by omega)
      refine W_ret ?_
      simp [Fin, this]
      all_goals omega
    simp at h3
    refine u_1 ?_
    exact ⟨a.length - (i + 1), by omega, i + 1, v2, rfl, h2, by omega, by omega, by simp [gc, closeN, liveA, gcV, gcO, renA, namesAs, namesA]; rw [wrap_id (by omega) (by omega)]⟩
  · simp at h2
    rw [if_pos rfl]
    rw [List.take_of_length_le h2] at he
    refine W_seq (?_)
    refine u_1 ?_
    have : leftR (a.length + sumBy List.length a) l = v := by rw [leftR_yes (by omega)]; omega
    refine W_ret ?_
    simp [Fin, this]
    all_goals omega

theorem rows7 {R : List (List D)} {i : Nat} (h : ∀ r, r ∈ R → r.length = 7) (hi : i < R.length) : ∃ y0 y1 y2 y3 y4 y5 y6, R[i]? = some [y0, y1, y2, y3, y4, y5, y6] := by
  have h1 := h _ (List.getElem_mem hi)
  have h2 := List.getElem?_eq_getElem hi
  generalize R[i] = r at h1 h2
  match r, h1 with
  | [y0, y1, y2, y3, y4, y5, y6], _ => exact ⟨y0, y1, y2, y3, y4, y5, y6, h2⟩

theorem set7 {R : List (List D)} {i : Nat} {row : List D} (h : ∀ r, r ∈ R → r.length = 7) (hr : row.length = 7) : ∀ r, r ∈ R.set i row → r.length = 7 := by
  intro r hm
  rcases List.mem_or_eq_of_mem_set hm with hm | rfl
  · exact h r hm
  · exact hr

theorem rows3 {R : List (List D)} {i : Nat} (h : ∀ r, r ∈ R → r.length = 3) (hi : i < R.length) : ∃ y0 y1 y2, R[i]? = some [y0, y1, y2] := by
  have h1 := h _ (List.getElem_mem hi)
  have h2 := List.getElem?_eq_getElem hi
  generalize R[i] = r at h1 h2
  match r, h1 with
  | [y0, y1, y2], _ => exact ⟨y0, y1, y2, h2⟩

theorem set3 {R : List (List D)} {i : Nat} {row : List D} (h : ∀ r, r ∈ R → r.length = 3) (hr : row.length = 3) : ∀ r, r ∈ R.set i row → r.length = 3 := by
  intro r hm
  rcases List.mem_or_eq_of_mem_set hm with hm | rfl
  · exact h r hm
  · exact hr

theorem rows6 {R : List (List D)} {i : Nat} (h : ∀ r, r ∈ R → r.length = 6) (hi : i < R.length) : ∃ y0 y1 y2 y3 y4 y5, R[i]? = some [y0, y1, y2, y3, y4, y5] := by
  have h1 := h _ (List.getElem_mem hi)
  have h2 := List.getElem?_eq_getElem hi
  generalize R[i] = r at h1 h2
  match r, h1 with
  | [y0, y1, y2, y3, y4, y5], _ => exact ⟨y0, y1, y2, y3, y4, y5, h2⟩

theorem set6 {R : List (List D)} {i : Nat} {row : List D} (h : ∀ r, r ∈ R → r.length = 6) (hr : row.length = 6) : ∀ r, r ∈ R.set i row → r.length = 6 := by
  intro r hm
  rcases List.mem_or_eq_of_mem_set hm with hm | rfl
  · exact h r hm
  · exact hr

def nameB (b : UInt8) : Bool := decide (97 ≤ b.toNat ∧ b.toNat ≤ 122 ∨ 48 ≤ b.toNat ∧ b.toNat ≤ 57)

def segB (b : UInt8) : Bool := decide ((97 ≤ b.toNat ∧ b.toNat ≤ 122 ∨ 48 ≤ b.toNat ∧ b.toNat ≤ 57) ∨ b.toNat = 45)

def nameOk (s : List UInt8) : Bool := decide (1 ≤ s.length ∧ s.length ≤ 12) && s.all nameB

def segOk (s : List UInt8) : Bool := decide (1 ≤ s.length ∧ s.length ≤ 16) && s.all segB

def headCons (b : UInt8) : List (List UInt8) → List (List UInt8)
  | [] => []
  | p :: ps => (b :: p) :: ps

def headApp (c : List UInt8) : List (List UInt8) → List (List UInt8)
  | [] => []
  | p :: ps => (c ++ p) :: ps

/-- A text cut at each byte c. -/
def cutAt (c : UInt8) : List UInt8 → List (List UInt8)
  | [] => [[]]
  | b :: r => if b = c then [] :: cutAt c r else headCons b (cutAt c r)

theorem cutAt_ne (c : UInt8) (s : List UInt8) : ∃ p ps, cutAt c s = p :: ps := by
  induction s with
  | nil => exact ⟨_, _, rfl⟩
  | cons b r ih =>
    obtain ⟨p, ps, h⟩ := ih
    unfold cutAt
    split
    · exact ⟨_, _, rfl⟩
    · rw [h]; exact ⟨_, _, rfl⟩

theorem headApp_nil (c : UInt8) (s : List UInt8) : headApp [] (cutAt c s) = cutAt c s := by
  obtain ⟨p, ps, h⟩ := cutAt_ne c s
  rw [h]; rfl

theorem headApp_hit (c : UInt8) (cur r : List UInt8) : headApp cur (cutAt c (c :: r)) = cur :: headApp [] (cutAt c r) := by
  rw [headApp_nil, cutAt, if_pos rfl]; simp [headApp]

theorem headApp_miss {c b : UInt8} (h : b ≠ c) (cur r : List UInt8) : headApp cur (cutAt c (b :: r)) = headApp (cur ++ [b]) (cutAt c r) := by
  obtain ⟨p, ps, e⟩ := cutAt_ne c r
  rw [cutAt, if_neg h, e]; simp [headCons, headApp]

theorem cutAt_len (c : UInt8) (s : List UInt8) : (cutAt c s).length ≤ s.length + 1 := by
  induction s with
  | nil => simp [cutAt]
  | cons b r ih =>
    unfold cutAt
    split
    · simp; exact ih
    · obtain ⟨p, ps, e⟩ := cutAt_ne c r
      rw [e] at ih ⊢
      simp [headCons] at ih ⊢; omega

theorem cutAt_mem {c : UInt8} : ∀ (s : List UInt8) {p : List UInt8}, p ∈ cutAt c s → p.length ≤ s.length := by
  intro s
  induction s with
  | nil => intro p h; simp [cutAt] at h; subst h; simp
  | cons b r ih =>
    intro p h
    unfold cutAt at h
    split at h
    · rcases List.mem_cons.1 h with rfl | h
      · simp
      · have := ih h; simp; omega
    · obtain ⟨q, qs, e⟩ := cutAt_ne c r
      rw [e] at h ih
      simp only [headCons] at h
      rcases List.mem_cons.1 h with rfl | h
      · have := ih (List.mem_cons_self ..); simp; omega
      · have := ih (List.mem_cons_of_mem _ h); simp; omega

/-- What is in a text is in one of its pieces, or is the cutting byte. -/
theorem cutAt_all {c : UInt8} {P : UInt8 → Prop} (hc : P c) : ∀ (s : List UInt8), (∀ p, p ∈ cutAt c s → ∀ b, b ∈ p → P b) → ∀ b, b ∈ s → P b := by
  intro s
  induction s with
  | nil => intro _ b h; simp at h
  | cons x r ih =>
    intro h b hb
    unfold cutAt at h
    split at h
    · rename_i e
      rcases List.mem_cons.1 hb with rfl | hb
      · rw [e]; exact hc
      · exact ih (fun p hp => h p (by simp [hp])) b hb
    · obtain ⟨q, qs, e⟩ := cutAt_ne c r
      rw [e] at h ih
      simp only [headCons] at h
      rcases List.mem_cons.1 hb with rfl | hb
      · exact h _ (List.mem_cons_self ..) _ (by simp)
      · refine ih (fun p hp b' hb' => ?_) b hb
        rcases List.mem_cons.1 hp with rfl | hp
        · exact h _ (List.mem_cons_self ..) b' (by simp [hb'])
        · exact h p (by simp [hp]) b' hb'

def segAt (l : List (List UInt8)) (i : Nat) : Bool := match l[i]? with | some s => segOk s || (s == [43]) || (s == [42] && decide (i + 1 = l.length)) | none => true

def globOk (s : List UInt8) : Bool := decide (s.length ≤ 120) && ((List.range (cutAt 47 s).length).all (segAt (cutAt 47 s)) && decide ((cutAt 47 s).length ≤ 8))

def starB (b : UInt8) : Bool := decide (b.toNat = 43 ∨ b.toNat = 42)

def pathOk (s : List UInt8) : Bool := globOk s && !s.any starB

theorem globOk_ascii {s : List UInt8} (h : globOk s = true) : ∀ b, b ∈ s → b.toNat < 128 := by
  simp only [globOk, Bool.and_eq_true, List.all_eq_true, List.mem_range] at h
  refine cutAt_all (c := 47) (P := fun b => b.toNat < 128) (by decide) s fun p hp b hb => ?_
  obtain ⟨i, hi, he⟩ := List.mem_iff_getElem.1 hp
  have := h.2.1 i hi
  unfold segAt at this
  rw [List.getElem?_eq_getElem hi, he] at this
  simp only [Bool.or_eq_true, Bool.and_eq_true, beq_iff_eq] at this
  rcases this with (h1 | h1) | h1
  · unfold segOk at h1
    simp only [Bool.and_eq_true, List.all_eq_true] at h1
    have := h1.2 b hb
    unfold segB at this
    simp at this
    omega
  · subst h1; simp at hb; subst hb; decide
  · obtain ⟨h1, _⟩ := h1; subst h1; simp at hb; subst hb; decide

theorem all_no {α : Type} {p : α → Bool} {l : List α} {i : Nat} {x : α} (h : l[i]? = some x) (hx : p x = false) : l.all p = false := by
  rw [List.all_eq_false]; exact ⟨x, List.mem_of_getElem? h, by simp [hx]⟩

theorem any_yes {α : Type} {p : α → Bool} {l : List α} {i : Nat} {x : α} (h : l[i]? = some x) (hx : p x = true) : l.any p = true := by
  rw [List.any_eq_true]; exact ⟨x, List.mem_of_getElem? h, hx⟩

theorem take_all {α : Type} {p : α → Prop} {l : List α} {i : Nat} {x : α} (ha : l[i]? = some x) (hn : ∀ y, y ∈ l.take i → p y) (hx : p x) : ∀ y, y ∈ l.take (i + 1) → p y := by
  intro y hy
  rw [List.take_add_one, ha] at hy
  rcases List.mem_append.1 hy with hy | hy
  · exact hn y hy
  · simp at hy; subst hy; exact hx

theorem getD_of {s : List UInt8} {i : Nat} {x : UInt8} (h : s[i]? = some x) : s[i]?.getD 0 = x := by rw [h]; rfl

theorem l01Name_ok (s : List UInt8) (hs : s.length ≤ 281474976710656) : Valid PP GG F_S_l01Name [.d (.str s)] (.d (.bool (nameOk s))) [none] := by
  refine v_S_l01Name [.d (.bool (nameOk s))] rfl rfl ?_
  refine W_seq (?_)
  refine u_1 ?_
  refine W_seq (W_seq (?_))
  refine u_1 ?_
  refine W_block (W_loop (fun n st => ∃ i : Nat, n = s.length - i ∧ i ≤ s.length ∧ (∀ y, y ∈ s.take i → nameB y = true) ∧ st = ⟨[], [(0, .d (.str s)), (3, .d (.int .i64 i))], [], 0⟩) _ ⟨0, rfl, by omega, fun y h => by simp at h, rfl⟩ ?_)
  rintro n st ⟨i, rfl, hi, hn, rfl⟩
  refine W_seq (W_seq (?_))
  refine u_1 ?_
  refine W_cond rfl (fun h => W_skip ?_) (fun h => W_exit ?_)
  · simp at h
    have ha := List.getElem?_eq_getElem h
    generalize s[i] = x at ha
    have hd := getD_of ha
    refine W_seq (W_block (W_seq ?_))
    refine u_6 hd ?_
    obtain ⟨v, hv⟩ : ∃ v, x.toNat = v := ⟨_, rfl⟩
    have hnb : nameB x = decide (97 ≤ v ∧ v ≤ 122 ∨ 48 ≤ v ∧ v ≤ 57) := by rw [← hv]; rfl
    rw [hv]
    refine W_seq (?_)
    refine u_5 29 (decide (¬ (97 ≤ v ∧ v ≤ 122 ∨ 48 ≤ v ∧ v ≤ 57))) ?_
    refine W_cond rfl (fun h2 => W_seq ?_) (fun h2 => W_skip ?_)
    · rw [h2]
      refine u_1 ?_
      have : nameOk s = false := by
        unfold nameOk
        rw [all_no ha (by rw [hnb]; exact decide_eq_false (of_decide_eq_true h2)), Bool.and_false]
      refine W_ret ?_
      simp [Fin, this]
      all_goals omega
    rw [h2]
    refine u_1 ?_
    exact ⟨s.length - (i + 1), by omega, i + 1, rfl, h, take_all ha hn (by rw [hnb]; exact decide_eq_true (Decidable.not_not.1 (of_decide_eq_false h2))), by simp [gc, closeN, liveA, gcV, gcO, renA, namesAs, namesA]; rw [wrap_id (by omega) (by omega)]⟩
  · simp at h
    rw [if_pos rfl]
    rw [List.take_of_length_le h] at hn
    refine W_seq (?_)
    refine u_8 (l01In_ok s.length 1 12) ?_
    have : (decide (1 ≤ (s.length : Int)) && decide ((s.length : Int) ≤ 12)) = nameOk s := by
      unfold nameOk
      rw [List.all_eq_true.2 hn, Bool.and_true, Bool.eq_iff_iff]
      simp
      omega
    refine W_ret ?_
    simp [Fin, this]
    all_goals omega

theorem l01Segment_ok (s : List UInt8) (hs : s.length ≤ 281474976710656) : Valid PP GG F_S_l01Segment [.d (.str s)] (.d (.bool (segOk s))) [none] := by
  refine v_S_l01Segment [.d (.bool (segOk s))] rfl rfl ?_
  have cl := l01In_ok (GG := GG) s.length 1 16
  obtain ⟨p, hp⟩ : ∃ p, (decide (1 ≤ (s.length : Int)) && decide ((s.length : Int) ≤ 16)) = p := ⟨_, rfl⟩
  have hp2 : segOk s = (p && s.all segB) := by
    unfold segOk
    rw [← hp]
    congr 1
    rw [Bool.eq_iff_iff]; simp; omega
  rw [hp] at cl
  refine W_seq (?_)
  refine u_1 ?_
  refine W_seq (W_seq (?_))
  refine u_8 cl ?_
  refine W_cond rfl (fun h => W_seq ?_) (fun h => W_skip ?_)
  · simp at h
    subst h
    refine u_1 ?_
    refine W_ret ?_
    simp [Fin, hp2]
    all_goals omega
  simp at h
  subst h
  refine W_seq (W_seq (?_))
  refine u_1 ?_
  refine W_block (W_loop (fun n st => ∃ i : Nat, n = s.length - i ∧ i ≤ s.length ∧ (∀ y, y ∈ s.take i → segB y = true) ∧ st = ⟨[], [(0, .d (.str s)), (3, .d (.int .i64 i))], [], 0⟩) _ ⟨0, rfl, by omega, fun y h => by simp at h, rfl⟩ ?_)
  rintro n st ⟨i, rfl, hi, hn, rfl⟩
  refine W_seq (W_seq (?_))
  refine u_1 ?_
  refine W_cond rfl (fun h => W_skip ?_) (fun h => W_exit ?_)
  · simp at h
    have ha := List.getElem?_eq_getElem h
    generalize s[i] = x at ha
    have hd := getD_of ha
    refine W_seq (W_block (W_seq ?_))
    refine u_6 hd ?_
    obtain ⟨v, hv⟩ : ∃ v, x.toNat = v := ⟨_, rfl⟩
    have hnb : segB x = decide ((97 ≤ v ∧ v ≤ 122 ∨ 48 ≤ v ∧ v ≤ 57) ∨ v = 45) := by rw [← hv]; rfl
    rw [hv]
    refine W_seq (?_)
    refine u_5 37 (decide (¬ ((97 ≤ v ∧ v ≤ 122 ∨ 48 ≤ v ∧ v ≤ 57) ∨ v = 45))) ?_
    refine W_cond rfl (fun h2 => W_seq ?_) (fun h2 => W_skip ?_)
    · rw [h2]
      refine u_1 ?_
      have : segOk s = false := by
        rw [hp2, all_no ha (by rw [hnb]; exact decide_eq_false (of_decide_eq_true h2)), Bool.and_false]
      refine W_ret ?_
      simp [Fin, this]
      all_goals omega
    rw [h2]
    refine u_1 ?_
    exact ⟨s.length - (i + 1), by omega, i + 1, rfl, h, take_all ha hn (by rw [hnb]; exact decide_eq_true (Decidable.not_not.1 (of_decide_eq_false h2))), by simp [gc, closeN, liveA, gcV, gcO, renA, namesAs, namesA]; rw [wrap_id (by omega) (by omega)]⟩
  · simp at h
    rw [if_pos rfl]
    rw [List.take_of_length_le h] at hn
    refine W_seq (?_)
    refine u_1 ?_
    have : segOk s = true := by rw [hp2, List.all_eq_true.2 hn]; rfl
    refine W_ret ?_
    simp [Fin, this]
    all_goals omega

theorem take_drop_snoc {s : List UInt8} {a i : Nat} {x : UInt8} (h : s[i]? = some x) (ha : a ≤ i) : (s.take (i + 1)).drop a = (s.take i).drop a ++ [x] := by
  have hl := (List.getElem?_eq_some_iff.1 h).1
  rw [List.take_add_one, h, List.drop_append_of_le_length (by rw [List.length_take]; omega)]; rfl

theorem l01Parts_ok (s : List UInt8) (c : UInt8) (hs : s.length ≤ 4194304) : Valid PP GG F_S_l01Parts [.d (.str s), .d (.int .u8 c.toNat)] (.own 0 1 (strsD (cutAt c s))) [none, none] := by
  refine v_S_l01Parts [.own 0 1 (strsD (cutAt c s))] rfl rfl ?_
  refine W_seq (?_)
  refine u_1 ?_
  refine W_seq (?_)
  refine u_9 ?_
  refine W_seq (?_)
  refine u_1 ?_
  refine W_seq (W_seq (?_))
  refine u_1 ?_
  refine W_block (W_loop (fun n st => ∃ (i a : Nat) (o : List (List UInt8)), n = s.length + 1 - i ∧ o.length ≤ i ∧ a ≤ i ∧ (i ≤ s.length ∧ cutAt c s = o ++ headApp ((s.take i).drop a) (cutAt c (s.drop i)) ∨ i = s.length + 1 ∧ cutAt c s = o) ∧
    st = ⟨[], [(0, .d (.str s)), (1, .d (.int .u8 c.toNat)), (5, .sl 0), (6, .d (.int .i64 a)), (7, .d (.int .i64 i))], [(0, .arr 0 0 1 (strsD o))], 1⟩) _ ⟨0, 0, [], rfl, by simp, by omega, .inl ⟨by omega, by simp [headApp_nil]⟩, rfl⟩ ?_)
  rintro n st ⟨i, a, o, rfl, hol, hai, hinv, rfl⟩
  refine W_seq (W_seq (?_))
  refine u_1 ?_
  refine W_cond rfl (fun h => W_skip ?_) (fun h => W_exit ?_)
  · rw [h]
    simp at h
    obtain ⟨_, hcut⟩ := hinv.resolve_right (by omega)
    clear hinv
    have hw : IntKind.i64.wrap ((i : Int) + 1) = ((i + 1 : Nat) : Int) := by rw [wrap_id (by omega) (by omega)]; omega
    have t1 : ((a : Int)).toNat = a := by omega
    have t2 : ((i : Int)).toNat = i := by omega
    refine W_seq (W_block (W_seq ?_))
    by_cases hend : i = s.length
    · subst hend
      refine u_5 25 (true) ?_
      refine W_cond rfl (fun h2 => W_seq ?_) (fun h2 => ?_)
      rotate_left
      · cases h2
      refine u_10 ?_
      refine u_6 hw ?_
      refine u_6 hw ?_
      refine ⟨s.length + 1 - (s.length + 1), by omega, s.length + 1, s.length + 1, o ++ [(s.take s.length).drop a], rfl, by simp; omega, by omega, .inr ⟨by omega, ?_⟩, by simp [gc, closeN, liveA, gcV, gcO, renA, renO, namesAs, namesA, namesO, posn, strsD]⟩
      rw [hcut, List.drop_length]
      simp [cutAt, headApp]
    · have ha := List.getElem?_eq_getElem (show i < s.length by omega)
      generalize s[i]'_ = x at ha
      have hd := getD_of ha
      have hdr := drop_get ha
      by_cases hx : x = c
      · subst hx
        refine u_11 hd 25 (true) ?_
        refine W_cond rfl (fun h2 => W_seq ?_) (fun h2 => ?_)
        rotate_left
        · cases h2
        refine u_10 ?_
        refine u_6 hw ?_
        refine u_6 hw ?_
        refine ⟨s.length + 1 - (i + 1), by omega, i + 1, i + 1, o ++ [(s.take i).drop a], rfl, by simp; omega, by omega, .inl ⟨by omega, ?_⟩, by simp [gc, closeN, liveA, gcV, gcO, renA, renO, namesAs, namesA, namesO, posn, strsD]⟩
        have hnil : (s.take (i + 1)).drop (i + 1) = [] := List.drop_eq_nil_of_le (by rw [List.length_take]; omega)
        rw [hcut, hdr, headApp_hit, hnil]
        simp
      · have hx2 : x.toNat ≠ c.toNat := fun e => hx (UInt8.toNat_inj.1 e)
        refine u_11 hd 25 (false) ?_
        refine W_cond rfl (fun h2 => ?_) (fun h2 => W_skip ?_)
        · cases h2
        refine u_6 hw ?_
        refine ⟨s.length + 1 - (i + 1), by omega, i + 1, a, o, rfl, by omega, by omega, .inl ⟨by omega, ?_⟩, by simp [gc, closeN, liveA, gcV, gcO, renA, renO, namesAs, namesA, namesO, posn, strsD]⟩
        rw [hcut, hdr, headApp_miss hx, take_drop_snoc ha hai]
  · simp at h
    obtain ⟨_, hcut⟩ := hinv.resolve_left (by omega)
    rw [if_pos rfl]
    subst hcut
    refine W_seq (?_)
    refine u_1 ?_
    refine W_ret ?_
    simp [Fin]
    all_goals omega

theorem range_no {p : Nat → Bool} {n i : Nat} (h : i < n) (hp : p i = false) : (List.range n).all p = false := by
  rw [List.all_eq_false]; exact ⟨i, by simpa using h, by simp [hp]⟩

theorem s_GlobOk_ok (s : List UInt8) (hs : s.length ≤ 4194304) : Valid PP GG F_S_GlobOk [.d (.str s)] (.d (.bool (globOk s))) [none] := by
  refine v_S_GlobOk [.d (.bool (globOk s))] rfl rfl ?_
  refine W_seq (?_)
  refine u_1 ?_
  refine W_seq (W_seq (?_))
  refine u_1 ?_
  refine W_cond rfl (fun h => W_seq ?_) (fun h => W_skip ?_)
  · simp at h
    refine u_1 ?_
    have : globOk s = false := by unfold globOk; rw [decide_eq_false (by omega)]; rfl
    refine W_ret ?_
    simp [Fin, this]
    all_goals omega
  simp at h
  have cp : Valid PP GG F_S_l01Parts [.d (.str s), .d (.int .u8 47)] (.own 0 1 (strsD (cutAt 47 s))) [none, none] := l01Parts_ok s 47 hs
  have hg : globOk s = ((List.range (cutAt 47 s).length).all (segAt (cutAt 47 s)) && decide ((cutAt 47 s).length ≤ 8)) := by unfold globOk; rw [decide_eq_true (by omega)]; rfl
  have hml : ∀ x, x ∈ cutAt 47 s → x.length ≤ 4194304 := fun x hx => by have := cutAt_mem s hx; omega
  have hll := cutAt_len 47 s
  generalize cutAt 47 s = l at cp hg hml hll
  refine W_seq (?_)
  refine u_8 cp ?_
  refine W_seq (W_seq (?_))
  refine u_1 ?_
  refine W_block (W_loop (fun n st => ∃ i : Nat, n = l.length - i ∧ i ≤ l.length ∧ (∀ j, j < i → segAt l j = true) ∧ st = ⟨[], [(3, .sl 0), (4, .d (.int .i64 i))], [(0, .arr 0 0 1 (strsD l))], 1⟩) _ ⟨0, rfl, by omega, fun j h => by omega, rfl⟩ ?_)
  rintro n st ⟨i, rfl, hi, hn, rfl⟩
  refine W_seq (W_seq (?_))
  refine u_1 ?_
  refine W_cond rfl (fun h => W_skip ?_) (fun h => W_exit ?_)
  · simp at h
    have ha := List.getElem?_eq_getElem h
    generalize l[i] = x at ha
    have ct := l01Segment_ok (GG := GG) x (by have := hml x (List.mem_of_getElem? ha); omega)
    have hseg : segAt l i = (segOk x || (x == [43]) || (x == [42] && decide (i + 1 = l.length))) := by unfold segAt; rw [ha]
    obtain ⟨p, hp⟩ : ∃ p, segOk x = p := ⟨_, rfl⟩
    obtain ⟨u, hu⟩ : ∃ p, (x == [43]) = p := ⟨_, rfl⟩
    obtain ⟨w, hw⟩ : ∃ p, (x == [42]) = p := ⟨_, rfl⟩
    rw [hp] at ct
    rw [hp, hu, hw] at hseg
    have hwl : IntKind.i64.wrap ((l.length : Int) - 1) = (l.length : Int) - 1 := wrap_id (by omega) (by omega)
    obtain ⟨z, hz⟩ : ∃ z, decide ((i : Int) = (l.length : Int) - 1) = z := ⟨_, rfl⟩
    have hz2 : decide (i + 1 = l.length) = z := by rw [← hz]; exact decide_eq_decide.2 (by omega)
    rw [hz2] at hseg
    have hzb : ((i : Int) == (l.length : Int) - 1) = z := by rw [← hz]; rfl
    refine W_seq (W_block (W_seq ?_))
    refine u_12 ha hu hw hwl hzb ct 43 (!(p || u || (w && z))) ?_
    refine W_cond rfl (fun h2 => W_seq ?_) (fun h2 => W_skip ?_)
    · refine u_1 ?_
      have : globOk s = false := by
        rw [hg, range_no (i := i) (by omega) (by rw [hseg]; generalize (p || u || (w && z)) = q at h2 ⊢; cases q <;> simp_all), Bool.false_and]
      refine W_ret ?_
      simp [Fin, this]
      all_goals omega
    refine u_1 ?_
    refine ⟨l.length - (i + 1), by omega, i + 1, rfl, h, fun j hj => ?_, by simp [gc, closeN, liveA, gcV, gcO, renA, renO, namesAs, namesA, namesO, posn]; rw [wrap_id (by omega) (by omega)]⟩
    by_cases e : j = i
    · subst e; rw [hseg]; generalize (p || u || (w && z)) = q at h2 ⊢; cases q <;> simp_all
    · exact hn j (by omega)
  · simp at h
    rw [if_pos rfl]
    have hall : (List.range l.length).all (segAt l) = true := List.all_eq_true.2 fun j hj => hn j (by have := List.mem_range.1 hj; omega)
    refine W_seq (?_)
    refine u_1 ?_
    have : globOk s = decide ((l.length : Int) ≤ 8) := by rw [hg, hall, Bool.true_and]; exact decide_eq_decide.2 (by omega)
    refine W_ret ?_
    simp [Fin, this]
    all_goals omega

theorem s_PathOk_ok (s : List UInt8) (hs : s.length ≤ 4194304) : Valid PP GG F_S_PathOk [.d (.str s)] (.d (.bool (pathOk s))) [none] := by
  refine v_S_PathOk [.d (.bool (pathOk s))] rfl rfl ?_
  have cg := s_GlobOk_ok (GG := GG) s hs
  have hp : pathOk s = (globOk s && !s.any starB) := rfl
  generalize globOk s = g at cg hp
  refine W_seq (?_)
  refine u_1 ?_
  refine W_seq (W_seq (?_))
  refine u_8 cg ?_
  refine W_cond rfl (fun h => W_seq ?_) (fun h => W_skip ?_)
  · simp at h
    subst h
    refine u_1 ?_
    refine W_ret ?_
    simp [Fin, hp]
    all_goals omega
  simp at h
  subst h
  refine W_seq (W_seq (?_))
  refine u_1 ?_
  refine W_block (W_loop (fun n st => ∃ i : Nat, n = s.length - i ∧ i ≤ s.length ∧ (∀ y, y ∈ s.take i → starB y = false) ∧ st = ⟨[], [(0, .d (.str s)), (3, .d (.int .i64 i))], [], 0⟩) _ ⟨0, rfl, by omega, fun y h => by simp at h, rfl⟩ ?_)
  rintro n st ⟨i, rfl, hi, hn, rfl⟩
  refine W_seq (W_seq (?_))
  refine u_1 ?_
  refine W_cond rfl (fun h => W_skip ?_) (fun h => W_exit ?_)
  · simp at h
    have ha := List.getElem?_eq_getElem h
    generalize s[i] = x at ha
    have hd := getD_of ha
    obtain ⟨v, hv⟩ : ∃ v, x.toNat = v := ⟨_, rfl⟩
    have hnb : starB x = decide (v = 43 ∨ v = 42) := by rw [← hv]; rfl
    refine W_seq (W_block (W_seq ?_))
    refine u_13 hd hv 22 (decide (v = 43 ∨ v = 42)) ?_
    refine W_cond rfl (fun h2 => W_seq ?_) (fun h2 => W_skip ?_)
    · rw [h2]
      refine u_1 ?_
      have : pathOk s = false := by rw [hp, any_yes ha (by rw [hnb]; exact h2)]; rfl
      refine W_ret ?_
      simp [Fin, this]
      all_goals omega
    rw [h2]
    refine u_1 ?_
    exact ⟨s.length - (i + 1), by omega, i + 1, rfl, h, take_all ha hn (by rw [hnb]; exact h2), by simp [gc, closeN, liveA, gcV, gcO, renA, namesAs, namesA]; rw [wrap_id (by omega) (by omega)]⟩
  · simp at h
    rw [if_pos rfl]
    rw [List.take_of_length_le h] at hn
    refine W_seq (?_)
    refine u_1 ?_
    have : pathOk s = true := by
      have e : s.any starB = false := by rw [List.any_eq_false]; intro y hy; simp [hn y hy]
      rw [hp, e]; rfl
    refine W_ret ?_
    simp [Fin, this]
    all_goals omega

theorem IndexByte_ok (al : List UInt8) (b : UInt8) : Valid PP GG 224 [.d (.str al), .d (.int .u8 b.toNat)] (.d (.int .i64 (Lib.indexByte al b))) [none, none] := by
  refine lib_new [.str al, .int .u8 b.toNat] ⟨Tryz.f224, Tryz.func224, by kernel_rfl, by kernel_rfl⟩ fun w Fz args hG hFz hl hA => ?_
  have e : args = #[.string ⟨al.toArray⟩, .int .u8 b.toNat] := by
    refine args_eq (l := [.string ⟨al.toArray⟩, .int .u8 b.toNat]) hl fun i v hv => ?_
    match i, hv with
    | 0, hv => cases hv; exact shr_str (hA 0 _ rfl)
    | 1, hv => cases hv; exact shr_int (hA 1 _ rfl)
  subst e
  refine (Go.Proofs.YtdckkojgnkoabaaGreatDoor.Tryz.strings_IndexByte ⟨al.toArray⟩ b.toNat w).mono ?_
  rintro e w' ⟨rfl, rfl⟩
  have hb : ((b.toNat : Int).toNat).toUInt8 = b := by simp
  rw [hb]
  exact ⟨_, Fz, fun _ _ => False, rfl, ⟨rfl, rfl⟩, Nat.le_refl _, fun _ _ => rfl, fun _ _ h => h, fun b o h => ⟨.inl h, hFz b o h⟩, .d _ _ _ (.int _ _) fun _ _ h => h, fun _ _ h => h.elim⟩

theorem ContainsAny_ok (s c : List UInt8) (h1 : s.length < 4294967281) (h2 : c.length < 4294967281) (h3 : ∀ b, b ∈ s → b.toNat < 128) (h4 : ∀ b, b ∈ c → b.toNat < 128) :
    Valid PP GG 241 [.d (.str s), .d (.str c)] (.d (.bool (Lib.containsAny s c))) [none, none] := by
  refine lib_new [.str s, .str c] ⟨Tryz.f241, Tryz.func241, by kernel_rfl, by kernel_rfl⟩ fun w Fz args hG hFz hl hA => ?_
  have e : args = #[.string ⟨s.toArray⟩, .string ⟨c.toArray⟩] := by
    refine args_eq (l := [.string ⟨s.toArray⟩, .string ⟨c.toArray⟩]) hl fun i v hv => ?_
    match i, hv with
    | 0, hv => cases hv; exact shr_str (hA 0 _ rfl)
    | 1, hv => cases hv; exact shr_str (hA 1 _ rfl)
  subst e
  refine (Go.Proofs.YtdckkojgnkoabaaGreatDoor.Tryz.strings_ContainsAny_laid ⟨s.toArray⟩ ⟨c.toArray⟩ w h1 h2 (fun j b hb => h3 b (List.mem_of_getElem? hb)) (fun j b hb => h4 b (List.mem_of_getElem? hb))).mono ?_
  rintro e w' ⟨rfl, hb⟩
  exact ⟨_, Fz, fun _ _ => False, rfl, ⟨hb.os, hb.output⟩, hb.size, fun b h => hb.block b h, fun _ _ h => h, fun b o h => ⟨.inl h, Nat.lt_of_lt_of_le (hFz b o h) hb.size⟩, .d _ _ _ (.bool _) fun _ _ h => h, fun _ _ h => h.elim⟩

theorem splitK_cons {b c : UInt8} (h : b ≠ c) : ∀ (k : Nat) (l : List UInt8), Lib.splitK [c] 0 k (b :: l) = headCons b (Lib.splitK [c] 0 k l) := by
  intro k l
  cases k with
  | zero => rfl
  | succ k =>
    have hp : ([c] : List UInt8).isPrefixOf (b :: l) = false := by simp [List.isPrefixOf, Ne.symm h]
    have hix : Lib.index (b :: l) [c] = if Lib.index l [c] == -1 then -1 else Lib.index l [c] + 1 := by rw [Lib.index, hp]; simp
    unfold Lib.splitK
    rw [hix]
    have hge := Lib.index_ge l [c]
    by_cases hm : Lib.index l [c] = -1
    · rw [hm]; simp [headCons]
    · obtain ⟨j, hj⟩ : ∃ j : Nat, Lib.index l [c] = j := ⟨(Lib.index l [c]).toNat, by omega⟩
      have h1 : ¬ ((j : Int) == -1) = true := fun e => by have := beq_iff_eq.1 e; omega
      have h2 : ¬ ((j : Int) + 1 == -1) = true := fun e => by have := beq_iff_eq.1 e; omega
      rw [hj, if_neg h1, if_neg h1, if_neg h2]
      have e1 : ((j : Int) + 1).toNat = j + 1 := by omega
      simp [headCons, e1]

theorem split_cut (c : UInt8) : ∀ s : List UInt8, Lib.splitK [c] 0 (Lib.count s [c]) s = cutAt c s := by
  intro s
  induction s with
  | nil => rw [Lib.count_one]; rfl
  | cons b r ih =>
    by_cases h : b = c
    · subst h
      have hix : Lib.index (b :: r) [b] = 0 := by rw [Lib.index]; simp [List.isPrefixOf]
      rw [Lib.count_cons_eq, show 1 + Lib.count r [b] = Lib.count r [b] + 1 by omega, Lib.splitK, hix, cutAt, if_pos rfl]
      simp [ih]
    · rw [Lib.count_cons_ne b c r h, splitK_cons h, ih, cutAt, if_neg h]

theorem Split_ok (s : List UInt8) (c : UInt8) [MaxL GG] (hs : s.length < 4294967281) : Valid PP GG 249 [.d (.str s), .d (.str [c])] (.d (.slc 1 (strsD (cutAt c s)))) [none, none] := by
  refine lib_new [.str s, .str [c]] ⟨Tryz.f249, Tryz.func249, by kernel_rfl, by kernel_rfl⟩ fun w Fz args hG hFz hl hA => ?_
  have e : args = #[.string ⟨s.toArray⟩, .string ⟨#[c]⟩] := by
    refine args_eq (l := [.string ⟨s.toArray⟩, .string ⟨#[c]⟩]) hl fun i v hv => ?_
    match i, hv with
    | 0, hv => cases hv; exact shr_str (hA 0 _ rfl)
    | 1, hv => cases hv; exact shr_str (hA 1 _ rfl)
  subst e
  obtain ⟨ob, h1, h2⟩ := hG 0 _ MaxL.h
  cases ob with
  | cells cs t fr =>
    obtain ⟨m, h3⟩ := h2
    refine (Go.Proofs.YtdckkojgnkoabaaGreatDoor.Tryz.strings_Split ⟨s.toArray⟩ ⟨#[c]⟩ m w hs (by unfold World.cell?; simp [h1, h3]) (Nat.le_refl 1)).mono ?_
    rintro e w' ⟨rfl, rfl⟩
    have hcount : Lib.countB ⟨s.toArray⟩ ⟨#[c]⟩ = Lib.count s [c] := rfl
    have hsplit : (Lib.splitB ⟨#[c]⟩ 0 (Lib.countB ⟨s.toArray⟩ ⟨#[c]⟩) ⟨s.toArray⟩).map (·.data.toList) = cutAt c s := by
      rw [Lib.splitB_data, hcount]; exact split_cut c s
    have hlen : (cutAt c s).length = Lib.countB ⟨s.toArray⟩ ⟨#[c]⟩ + 1 := by
      rw [← hsplit, List.length_map, Lib.splitB_all ⟨#[c]⟩ (Nat.le_refl 1) 0 _ _ rfl]
    generalize Lib.countB ⟨s.toArray⟩ ⟨#[c]⟩ = k at hsplit hlen ⊢
    generalize hL : Lib.splitB ⟨#[c]⟩ 0 k ⟨s.toArray⟩ = L at hsplit ⊢
    have hLl : L.length = k + 1 := by rw [← hlen, ← hsplit, List.length_map]
    have hblk : ∀ b, b < w.heap.size → (w.alloc (.cells (L.map Value.string).toArray 9)).heap[b]? = w.heap[b]? := fun b hb => by
      show (w.heap.push _)[b]? = _
      rw [Array.getElem?_push_lt hb, Array.getElem?_eq_getElem hb]
    have hnew : (w.alloc (.cells (L.map Value.string).toArray 9)).heap[w.heap.size]? = some (.cells (L.map Value.string).toArray 9) := by
      show (w.heap.push _)[w.heap.size]? = _
      simp
    have hsz : (w.alloc (.cells (L.map Value.string).toArray 9)).heap.size = w.heap.size + 1 := by
      show (w.heap.push _).size = _
      simp
    refine ⟨_, fun b o => Fz b o ∨ b = w.heap.size, fun _ _ => False, rfl, ⟨rfl, rfl⟩, by omega, hblk, fun _ _ h => .inl h, fun b o h => ?_, .d _ _ _ ?_ fun _ _ h => h, fun _ _ h => h.elim⟩
    · rcases h with h | h
      · exact ⟨.inl h, by have := hFz b o h; omega⟩
      · exact ⟨.inr (by omega), by omega⟩
    · have hrows : (strsD (cutAt c s)).length = k + 1 := by simp [hlen]
      have hget : ∀ (m : Nat) (d : D), (strsD (cutAt c s)).flatten[m]? = some d → ∃ t : ByteArray, L[m]? = some t ∧ d = D.str t.data.toList := by
        intro m d hm
        rw [← hsplit] at hm
        have hf : (strsD (L.map (·.data.toList))).flatten = L.map fun t => D.str t.data.toList := by
          unfold strsD
          generalize L = M
          induction M with
          | nil => rfl
          | cons x M ih => simp only [List.map_cons, List.flatten_cons] at ih ⊢; rw [ih]; rfl
        rw [hf, List.getElem?_map] at hm
        cases ht : L[m]? with
        | none => rw [ht] at hm; cases hm
        | some t => rw [ht] at hm; cases hm; exact ⟨t, rfl, rfl⟩
      have hcell : ∀ (m : Nat) (t : ByteArray), L[m]? = some t → (w.alloc (.cells (L.map Value.string).toArray 9)).cell? (at_ w.heap.size (0 + m)) = some (.string t) := by
        intro m t ht
        unfold World.cell?
        rw [show (at_ w.heap.size (0 + m)).block = w.heap.size from rfl, hnew]
        simp [ht]
      have := Shr.slc (w := w.alloc (.cells (L.map Value.string).toArray 9)) (Fz := fun b o => Fz b o ∨ b = w.heap.size) w.heap.size 0 (k + 1) 1 (strsD (cutAt c s)) (fun m => match L[m]? with | some t => .string t | none => Go.undef)
        (fun r hr => by unfold strsD at hr; obtain ⟨x, _, rfl⟩ := List.mem_map.1 hr; rfl) (by omega)
        (fun m d hm => by
          obtain ⟨t, ht, _⟩ := hget m d hm
          exact ⟨by rw [hcell m t ht, ht], .inr rfl⟩)
        (fun m d hm => by
          obtain ⟨t, ht, rfl⟩ := hget m d hm
          rw [ht]
          exact Shr.str t.data.toList)
      rw [hrows] at this
      exact this
  | _ => exact h2.elim

theorem onlyOf_ok (s al : List UInt8) (hs : s.length ≤ 281474976710656) : Valid PP GG F_I_onlyOf [.d (.str s), .d (.str al)] (.d (.bool (s.all fun b => decide (0 ≤ Lib.indexByte al b)))) [none, none] := by
  refine v_I_onlyOf [.d (.bool (s.all fun b => decide (0 ≤ Lib.indexByte al b)))] rfl rfl ?_
  refine W_seq (?_)
  refine u_1 ?_
  refine W_seq (W_seq (?_))
  refine u_1 ?_
  refine W_block (W_loop (fun n st => ∃ i : Nat, n = s.length - i ∧ i ≤ s.length ∧ (∀ y, y ∈ s.take i → decide (0 ≤ Lib.indexByte al y) = true) ∧ st = ⟨[], [(0, .d (.str s)), (1, .d (.str al)), (7, .d (.int .i64 s.length)), (8, .d (.int .i64 i))], [], 0⟩) _ ⟨0, rfl, by omega, fun y h => by simp at h, rfl⟩ ?_)
  rintro n st ⟨i, rfl, hi, hn, rfl⟩
  refine W_seq (?_)
  refine u_1 ?_
  refine W_seq (?_)
  refine W_cond rfl (fun h => W_skip ?_) (fun h => W_exit ?_)
  · simp at h
    have ha := List.getElem?_eq_getElem h
    generalize s[i] = x at ha
    have hd := getD_of ha
    have ci := IndexByte_ok (GG := GG) al x
    refine W_seq (W_block (W_seq ?_))
    refine u_1 ?_
    obtain ⟨v, hv⟩ : ∃ v, Lib.indexByte al x = v := ⟨_, rfl⟩
    rw [hv] at ci
    refine W_seq (?_)
    refine u_14 hd ci ?_
    refine W_cond rfl (fun h2 => W_seq ?_) (fun h2 => W_skip ?_)
    · simp at h2
      refine u_1 ?_
      have : (s.all fun b => decide (0 ≤ Lib.indexByte al b)) = false := all_no ha (decide_eq_false (by omega))
      refine W_ret ?_
      simp [Fin, this]
      all_goals omega
    simp at h2
    refine u_1 ?_
    exact ⟨s.length - (i + 1), by omega, i + 1, rfl, h, take_all ha hn (decide_eq_true (by omega)), by simp [gc, closeN, liveA, gcV, gcO, renA, namesAs, namesA]; rw [wrap_id (by omega) (by omega)]⟩
  · simp at h
    rw [if_pos rfl]
    rw [List.take_of_length_le h] at hn
    refine W_seq (?_)
    refine u_1 ?_
    have : (s.all fun b => decide (0 ≤ Lib.indexByte al b)) = true := List.all_eq_true.2 hn
    refine W_ret ?_
    simp [Fin, this]
    all_goals omega

def nameT : List UInt8 := [97, 98, 99, 100, 101, 102, 103, 104, 105, 106, 107, 108, 109, 110, 111, 112, 113, 114, 115, 116, 117, 118, 119, 120, 121, 122, 48, 49, 50, 51, 52, 53, 54, 55, 56, 57]

theorem nameT_is (b : UInt8) : decide (0 ≤ Lib.indexByte nameT b) = nameB b := by
  revert b; exact u8_all (p := fun b => decide (0 ≤ Lib.indexByte nameT b) = nameB b) (by decide +kernel)

theorem segT_is (b : UInt8) : decide (0 ≤ Lib.indexByte (nameT ++ [45]) b) = segB b := by
  revert b; exact u8_all (p := fun b => decide (0 ≤ Lib.indexByte (nameT ++ [45]) b) = segB b) (by decide +kernel)

theorem onlyName_ok (s : List UInt8) (hs : s.length ≤ 281474976710656) : Valid PP GG F_I_onlyOf [.d (.str s), .d (.str nameT)] (.d (.bool (s.all nameB))) [none, none] := by
  have h := onlyOf_ok (GG := GG) s nameT hs
  rw [show (fun b => decide (0 ≤ Lib.indexByte nameT b)) = nameB from funext nameT_is] at h
  exact h

theorem onlySeg_ok (s : List UInt8) (hs : s.length ≤ 281474976710656) : Valid PP GG F_I_onlyOf [.d (.str s), .d (.str (nameT ++ [45]))] (.d (.bool (s.all segB))) [none, none] := by
  have h := onlyOf_ok (GG := GG) s (nameT ++ [45]) hs
  rw [show (fun b => decide (0 ≤ Lib.indexByte (nameT ++ [45]) b)) = segB from funext segT_is] at h
  exact h

theorem isName_ok (s : List UInt8) (hs : s.length ≤ 281474976710656) : Valid PP GG F_I_isName [.d (.str s)] (.d (.bool (nameOk s))) [none] := by
  refine v_I_isName [.d (.bool (nameOk s))] rfl rfl ?_
  have cw := within_ok (GG := GG) s.length 1 12
  have co := onlyName_ok (GG := GG) s hs
  simp only [nameT] at co
  obtain ⟨p, hp⟩ : ∃ p, (decide (1 ≤ (s.length : Int)) && decide ((s.length : Int) ≤ 12)) = p := ⟨_, rfl⟩
  have hr : nameOk s = (p && s.all nameB) := by
    unfold nameOk
    rw [← hp]
    congr 1
    rw [Bool.eq_iff_iff]; simp; omega
  rw [hp] at cw
  generalize s.all nameB = q at co hr
  refine W_seq (?_)
  refine u_1 ?_
  refine W_seq (?_)
  refine u_15 cw co 2 (p && q) ?_
  refine W_ret ?_
  simp [Fin, hr]
  all_goals omega

theorem isGlob_ok [MaxL GG] (s : List UInt8) (hs : s.length ≤ 4194304) : Valid PP GG F_I_isGlob [.d (.str s)] (.d (.bool (globOk s))) [none] := by
  refine v_I_isGlob [.d (.bool (globOk s))] rfl rfl ?_
  refine W_seq (?_)
  refine u_1 ?_
  refine W_seq (W_seq (?_))
  refine u_1 ?_
  refine W_cond rfl (fun h => W_seq ?_) (fun h => W_skip ?_)
  · simp at h
    refine u_1 ?_
    have : globOk s = false := by unfold globOk; rw [decide_eq_false (by omega)]; rfl
    refine W_ret ?_
    simp [Fin, this]
    all_goals omega
  simp at h
  have cp := Split_ok (GG := GG) s 47 (by omega)
  have hg : globOk s = ((List.range (cutAt 47 s).length).all (segAt (cutAt 47 s)) && decide ((cutAt 47 s).length ≤ 8)) := by unfold globOk; rw [decide_eq_true (by omega)]; rfl
  have hml : ∀ x, x ∈ cutAt 47 s → x.length ≤ 4194304 := fun x hx => by have := cutAt_mem s hx; omega
  have hll := cutAt_len 47 s
  generalize cutAt 47 s = l at cp hg hml hll
  refine W_seq (?_)
  refine u_8 cp ?_
  refine W_seq (W_seq (?_))
  refine u_1 ?_
  refine W_block (W_loop (fun n st => ∃ i : Nat, n = l.length - i ∧ i ≤ l.length ∧ (∀ j, j < i → segAt l j = true) ∧ st = ⟨[], [(3, .d (.slc 1 (strsD l))), (11, .d (.slc 1 (strsD l))), (12, .d (.int .i64 l.length)), (13, .d (.int .i64 i))], [], 0⟩) _ ⟨0, rfl, by omega, fun j h => by omega, rfl⟩ ?_)
  rintro n st ⟨i, rfl, hi, hn, rfl⟩
  refine W_seq (?_)
  refine u_1 ?_
  refine W_seq (?_)
  refine W_cond rfl (fun h => W_skip ?_) (fun h => W_exit ?_)
  · simp at h
    have ha := List.getElem?_eq_getElem h
    generalize l[i] = x at ha
    have hxl := hml x (List.mem_of_getElem? ha)
    have cw := within_ok (GG := GG) x.length 1 16
    have co := onlySeg_ok (GG := GG) x (by omega)
    simp only [nameT, List.cons_append, List.nil_append] at co
    have hseg : segAt l i = (segOk x || (x == [43]) || (x == [42] && decide (i + 1 = l.length))) := by unfold segAt; rw [ha]
    obtain ⟨p, hp⟩ : ∃ p, (decide (1 ≤ (x.length : Int)) && decide ((x.length : Int) ≤ 16)) = p := ⟨_, rfl⟩
    have hr : segOk x = (p && x.all segB) := by
      unfold segOk
      rw [← hp]
      congr 1
      rw [Bool.eq_iff_iff]; simp; omega
    rw [hp] at cw
    obtain ⟨q, hq⟩ : ∃ q, x.all segB = q := ⟨_, rfl⟩
    rw [hq] at co hr
    obtain ⟨u, hu⟩ : ∃ p, (x == [43]) = p := ⟨_, rfl⟩
    obtain ⟨w, hw⟩ : ∃ p, (x == [42]) = p := ⟨_, rfl⟩
    rw [hr, hu, hw] at hseg
    have hwl : IntKind.i64.wrap ((l.length : Int) - 1) = (l.length : Int) - 1 := wrap_id (by omega) (by omega)
    obtain ⟨z, hz⟩ : ∃ z, decide ((i : Int) = (l.length : Int) - 1) = z := ⟨_, rfl⟩
    have hz2 : decide (i + 1 = l.length) = z := by rw [← hz]; exact decide_eq_decide.2 (by omega)
    rw [hz2] at hseg
    have hzb : ((i : Int) == (l.length : Int) - 1) = z := by rw [← hz]; rfl
    have hnext : segAt l i = true → ∀ j, j < i + 1 → segAt l j = true := fun hh j hj => by
      by_cases e : j = i
      · subst e; exact hh
      · exact hn j (by omega)
    refine W_seq (W_block (W_seq ?_))
    refine u_6 ha ?_
    refine W_seq (W_seq (?_))
    refine u_16 hu hw hwl hzb 30 (u || (w && z)) ?_
    refine W_cond rfl (fun h2 => W_exit ?_) (fun h2 => W_skip ?_)
    · rw [if_pos rfl]
      refine u_1 ?_
      exact ⟨l.length - (i + 1), by omega, i + 1, rfl, h, hnext (by rw [hseg]; revert h2; cases u <;> cases w <;> cases z <;> simp), by simp [gc, closeN, liveA, gcV, gcO, renA, renO, namesAs, namesA, namesO, posn]; rw [wrap_id (by omega) (by omega)]⟩
    refine W_seq (?_)
    refine u_15 cw co 39 (!(p && q)) ?_
    refine W_cond rfl (fun h3 => W_seq ?_) (fun h3 => W_skip ?_)
    · refine u_1 ?_
      have : globOk s = false := by
        rw [hg, range_no (i := i) (by omega) (by rw [hseg]; revert h2 h3; cases u <;> cases w <;> cases z <;> cases p <;> cases q <;> simp), Bool.false_and]
      refine W_ret ?_
      simp [Fin, this]
      all_goals omega
    refine u_1 ?_
    exact ⟨l.length - (i + 1), by omega, i + 1, rfl, h, hnext (by rw [hseg]; revert h3; cases p <;> cases q <;> simp), by simp [gc, closeN, liveA, gcV, gcO, renA, renO, namesAs, namesA, namesO, posn]; rw [wrap_id (by omega) (by omega)]⟩
  · simp at h
    rw [if_pos rfl]
    have hall : (List.range l.length).all (segAt l) = true := List.all_eq_true.2 fun j hj => hn j (by have := List.mem_range.1 hj; omega)
    refine W_seq (?_)
    refine u_1 ?_
    have : globOk s = decide ((l.length : Int) ≤ 8) := by rw [hg, hall, Bool.true_and]; exact decide_eq_decide.2 (by omega)
    refine W_ret ?_
    simp [Fin, this]
    all_goals omega

theorem containsAny_star : ∀ s : List UInt8, Lib.containsAny s [43, 42] = s.any starB := by
  have hb : ∀ b : UInt8, ([43, 42] : List UInt8).contains b = starB b := u8_all (p := fun b => ([43, 42] : List UInt8).contains b = starB b) (by decide +kernel)
  intro s
  unfold Lib.containsAny
  induction s with
  | nil => rfl
  | cons b r ih =>
    have hge := Lib.indexAny_ge [43, 42] r
    rw [Lib.indexAny, hb, List.any_cons, ← ih]
    cases starB b with
    | true => rfl
    | false =>
      simp only [Bool.false_eq_true, if_false, Bool.false_or]
      by_cases hm : Lib.indexAny r [43, 42] = -1
      · rw [hm]; rfl
      · rw [if_neg (fun e => hm (beq_iff_eq.1 e))]
        exact decide_eq_decide.2 (by omega)

theorem isPath_ok [MaxL GG] (s : List UInt8) (hs : s.length ≤ 4194304) : Valid PP GG F_I_isPath [.d (.str s)] (.d (.bool (pathOk s))) [none] := by
  refine v_I_isPath [.d (.bool (pathOk s))] rfl rfl ?_
  have cg := isGlob_ok (GG := GG) s hs
  have hp : pathOk s = (globOk s && !s.any starB) := rfl
  have hasc := globOk_ascii (s := s)
  generalize globOk s = g at cg hp hasc
  cases g with
  | false =>
    refine W_seq (?_)
    refine u_1 ?_
    refine W_seq (?_)
    refine u_17 cg 2 (false) ?_
    refine W_ret ?_
    simp [Fin, hp]
    all_goals omega
  | true =>
    have cc := ContainsAny_ok (GG := GG) s [43, 42] (by omega) (by simp) (hasc rfl) (by decide)
    rw [containsAny_star] at cc
    generalize s.any starB = q at cc hp
    refine W_seq (?_)
    refine u_1 ?_
    refine W_seq (?_)
    refine u_15 cg cc 2 (!q) ?_
    refine W_ret ?_
    simp [Fin, hp]
    all_goals omega

def inB (x lo hi : Int) : Bool := decide (lo ≤ x) && decide (x ≤ hi)

structure GToken where
  fId : Int
  fParent : Int
  fNames : List (List UInt8)
  fMade : Int
  fEnds : Int
  fLimit : Int
  fUses : Int
  deriving DecidableEq

@[simp] abbrev GToken.row (x : GToken) : List D := [.int .i64 x.fId, .int .i64 x.fParent, .slc 1 (strsD x.fNames), .int .i64 x.fMade, .int .i64 x.fEnds, .int .i64 x.fLimit, .int .i64 x.fUses]

@[simp] abbrev GToken.c (x : GToken) : List C := [.d (.int .i64 x.fId), .d (.int .i64 x.fParent), .d (.slc 1 (strsD x.fNames)), .d (.int .i64 x.fMade), .d (.int .i64 x.fEnds), .d (.int .i64 x.fLimit), .d (.int .i64 x.fUses)]

@[simp] abbrev GToken.o (x : GToken) : List C := [.d (.int .i64 x.fId), .d (.int .i64 x.fParent), .own 0 1 (strsD x.fNames), .d (.int .i64 x.fMade), .d (.int .i64 x.fEnds), .d (.int .i64 x.fLimit), .d (.int .i64 x.fUses)]

def rToken (l : List GToken) : List (List D) := l.map GToken.row

@[simp] theorem rToken_len (l : List GToken) : (rToken l).length = l.length := by simp [rToken]

@[simp] theorem rToken_get (l : List GToken) (i : Nat) : (rToken l)[i]? = (l[i]?).map GToken.row := by simp [rToken]

theorem rToken_app (a b : List GToken) : rToken (a ++ b) = rToken a ++ rToken b := by simp [rToken]

def GToken.cost (x : GToken) : Nat := (x.fNames.length + sumBy List.length x.fNames)

def GToken.ok (x : GToken) : Prop := int64 x.fId ∧ int64 x.fParent ∧ x.fNames.length ≤ maxLen ∧ (∀ y, y ∈ x.fNames → y.length ≤ maxLen) ∧ int64 x.fMade ∧ int64 x.fEnds ∧ int64 x.fLimit ∧ int64 x.fUses

structure GForest where
  fTokens : List GToken
  deriving DecidableEq

@[simp] abbrev GForest.row (x : GForest) : List D := [.slc 7 (rToken x.fTokens)]

@[simp] abbrev GForest.c (x : GForest) : List C := [.d (.slc 7 (rToken x.fTokens))]

@[simp] abbrev GForest.o (x : GForest) : List C := [.own 1 7 (rToken x.fTokens)]

def GForest.cost (x : GForest) : Nat := (x.fTokens.length + sumBy GToken.cost x.fTokens)

def GForest.ok (x : GForest) : Prop := x.fTokens.length ≤ maxLen ∧ (∀ y, y ∈ x.fTokens → y.ok)

structure GLease where
  fId : Int
  fToken : Int
  fPath : List UInt8
  fMade : Int
  fEnds : Int
  fLimit : Int
  deriving DecidableEq

@[simp] abbrev GLease.row (x : GLease) : List D := [.int .i64 x.fId, .int .i64 x.fToken, .str x.fPath, .int .i64 x.fMade, .int .i64 x.fEnds, .int .i64 x.fLimit]

@[simp] abbrev GLease.c (x : GLease) : List C := [.d (.int .i64 x.fId), .d (.int .i64 x.fToken), .d (.str x.fPath), .d (.int .i64 x.fMade), .d (.int .i64 x.fEnds), .d (.int .i64 x.fLimit)]

@[simp] abbrev GLease.o (x : GLease) : List C := [.d (.int .i64 x.fId), .d (.int .i64 x.fToken), .d (.str x.fPath), .d (.int .i64 x.fMade), .d (.int .i64 x.fEnds), .d (.int .i64 x.fLimit)]

def rLease (l : List GLease) : List (List D) := l.map GLease.row

@[simp] theorem rLease_len (l : List GLease) : (rLease l).length = l.length := by simp [rLease]

@[simp] theorem rLease_get (l : List GLease) (i : Nat) : (rLease l)[i]? = (l[i]?).map GLease.row := by simp [rLease]

theorem rLease_app (a b : List GLease) : rLease (a ++ b) = rLease a ++ rLease b := by simp [rLease]

def GLease.cost (x : GLease) : Nat := x.fPath.length

def GLease.ok (x : GLease) : Prop := int64 x.fId ∧ int64 x.fToken ∧ x.fPath.length ≤ maxLen ∧ int64 x.fMade ∧ int64 x.fEnds ∧ int64 x.fLimit

structure GBook where
  fLeases : List GLease
  deriving DecidableEq

@[simp] abbrev GBook.row (x : GBook) : List D := [.slc 6 (rLease x.fLeases)]

@[simp] abbrev GBook.c (x : GBook) : List C := [.d (.slc 6 (rLease x.fLeases))]

@[simp] abbrev GBook.o (x : GBook) : List C := [.own 0 6 (rLease x.fLeases)]

def GBook.cost (x : GBook) : Nat := (x.fLeases.length + sumBy GLease.cost x.fLeases)

def GBook.ok (x : GBook) : Prop := x.fLeases.length ≤ maxLen ∧ (∀ y, y ∈ x.fLeases → y.ok)

structure GUser where
  fName : List UInt8
  fPass : List UInt8
  deriving DecidableEq

@[simp] abbrev GUser.row (x : GUser) : List D := [.str x.fName, .str x.fPass]

@[simp] abbrev GUser.c (x : GUser) : List C := [.d (.str x.fName), .d (.str x.fPass)]

@[simp] abbrev GUser.o (x : GUser) : List C := [.d (.str x.fName), .d (.str x.fPass)]

def rUser (l : List GUser) : List (List D) := l.map GUser.row

@[simp] theorem rUser_len (l : List GUser) : (rUser l).length = l.length := by simp [rUser]

@[simp] theorem rUser_get (l : List GUser) (i : Nat) : (rUser l)[i]? = (l[i]?).map GUser.row := by simp [rUser]

theorem rUser_app (a b : List GUser) : rUser (a ++ b) = rUser a ++ rUser b := by simp [rUser]

def GUser.cost (x : GUser) : Nat := x.fName.length + x.fPass.length

def GUser.ok (x : GUser) : Prop := x.fName.length ≤ maxLen ∧ x.fPass.length ≤ maxLen

structure GFar where
  fUsers : List GUser
  fFail : Int
  fMade : Int
  deriving DecidableEq

@[simp] abbrev GFar.row (x : GFar) : List D := [.slc 2 (rUser x.fUsers), .int .i64 x.fFail, .int .i64 x.fMade]

@[simp] abbrev GFar.c (x : GFar) : List C := [.d (.slc 2 (rUser x.fUsers)), .d (.int .i64 x.fFail), .d (.int .i64 x.fMade)]

@[simp] abbrev GFar.o (x : GFar) : List C := [.own 0 2 (rUser x.fUsers), .d (.int .i64 x.fFail), .d (.int .i64 x.fMade)]

def GFar.cost (x : GFar) : Nat := (x.fUsers.length + sumBy GUser.cost x.fUsers)

def GFar.ok (x : GFar) : Prop := x.fUsers.length ≤ maxLen ∧ (∀ y, y ∈ x.fUsers → y.ok) ∧ int64 x.fFail ∧ int64 x.fMade

structure GJob where
  fName : List UInt8
  fAt : Int
  fTries : Int
  deriving DecidableEq

@[simp] abbrev GJob.row (x : GJob) : List D := [.str x.fName, .int .i64 x.fAt, .int .i64 x.fTries]

@[simp] abbrev GJob.c (x : GJob) : List C := [.d (.str x.fName), .d (.int .i64 x.fAt), .d (.int .i64 x.fTries)]

@[simp] abbrev GJob.o (x : GJob) : List C := [.d (.str x.fName), .d (.int .i64 x.fAt), .d (.int .i64 x.fTries)]

def rJob (l : List GJob) : List (List D) := l.map GJob.row

@[simp] theorem rJob_len (l : List GJob) : (rJob l).length = l.length := by simp [rJob]

@[simp] theorem rJob_get (l : List GJob) (i : Nat) : (rJob l)[i]? = (l[i]?).map GJob.row := by simp [rJob]

theorem rJob_app (a b : List GJob) : rJob (a ++ b) = rJob a ++ rJob b := by simp [rJob]

def GJob.cost (x : GJob) : Nat := x.fName.length

def GJob.ok (x : GJob) : Prop := x.fName.length ≤ maxLen ∧ int64 x.fAt ∧ int64 x.fTries

structure GQueue where
  fJobs : List GJob
  deriving DecidableEq

@[simp] abbrev GQueue.row (x : GQueue) : List D := [.slc 3 (rJob x.fJobs)]

@[simp] abbrev GQueue.c (x : GQueue) : List C := [.d (.slc 3 (rJob x.fJobs))]

@[simp] abbrev GQueue.o (x : GQueue) : List C := [.own 0 3 (rJob x.fJobs)]

def GQueue.cost (x : GQueue) : Nat := (x.fJobs.length + sumBy GJob.cost x.fJobs)

def GQueue.ok (x : GQueue) : Prop := x.fJobs.length ≤ maxLen ∧ (∀ y, y ∈ x.fJobs → y.ok)

structure GOwned where
  fLease : Int
  fName : List UInt8
  deriving DecidableEq

@[simp] abbrev GOwned.row (x : GOwned) : List D := [.int .i64 x.fLease, .str x.fName]

@[simp] abbrev GOwned.c (x : GOwned) : List C := [.d (.int .i64 x.fLease), .d (.str x.fName)]

@[simp] abbrev GOwned.o (x : GOwned) : List C := [.d (.int .i64 x.fLease), .d (.str x.fName)]

def rOwned (l : List GOwned) : List (List D) := l.map GOwned.row

@[simp] theorem rOwned_len (l : List GOwned) : (rOwned l).length = l.length := by simp [rOwned]

@[simp] theorem rOwned_get (l : List GOwned) (i : Nat) : (rOwned l)[i]? = (l[i]?).map GOwned.row := by simp [rOwned]

theorem rOwned_app (a b : List GOwned) : rOwned (a ++ b) = rOwned a ++ rOwned b := by simp [rOwned]

def GOwned.cost (x : GOwned) : Nat := x.fName.length

def GOwned.ok (x : GOwned) : Prop := int64 x.fLease ∧ x.fName.length ≤ maxLen

structure GWorld where
  fNow : Int
  fNext : Int
  fLost : Int
  fForest : GForest
  fBook : GBook
  fFar : GFar
  fQueue : GQueue
  fOwned : List GOwned
  deriving DecidableEq

@[simp] abbrev GWorld.row (x : GWorld) : List D := [.int .i64 x.fNow, .int .i64 x.fNext, .int .i64 x.fLost, .slc 7 (rToken x.fForest.fTokens), .slc 6 (rLease x.fBook.fLeases), .slc 2 (rUser x.fFar.fUsers), .int .i64 x.fFar.fFail, .int .i64 x.fFar.fMade, .slc 3 (rJob x.fQueue.fJobs), .slc 2 (rOwned x.fOwned)]

@[simp] abbrev GWorld.c (x : GWorld) : List C := [.d (.int .i64 x.fNow), .d (.int .i64 x.fNext), .d (.int .i64 x.fLost), .d (.slc 7 (rToken x.fForest.fTokens)), .d (.slc 6 (rLease x.fBook.fLeases)), .d (.slc 2 (rUser x.fFar.fUsers)), .d (.int .i64 x.fFar.fFail), .d (.int .i64 x.fFar.fMade), .d (.slc 3 (rJob x.fQueue.fJobs)), .d (.slc 2 (rOwned x.fOwned))]

@[simp] abbrev GWorld.o (x : GWorld) : List C := [.d (.int .i64 x.fNow), .d (.int .i64 x.fNext), .d (.int .i64 x.fLost), .own 1 7 (rToken x.fForest.fTokens), .own 0 6 (rLease x.fBook.fLeases), .own 0 2 (rUser x.fFar.fUsers), .d (.int .i64 x.fFar.fFail), .d (.int .i64 x.fFar.fMade), .own 0 3 (rJob x.fQueue.fJobs), .own 0 2 (rOwned x.fOwned)]

def GWorld.cost (x : GWorld) : Nat := x.fForest.cost + x.fBook.cost + x.fFar.cost + x.fQueue.cost + (x.fOwned.length + sumBy GOwned.cost x.fOwned)

def GWorld.ok (x : GWorld) : Prop := int64 x.fNow ∧ int64 x.fNext ∧ int64 x.fLost ∧ x.fForest.ok ∧ x.fBook.ok ∧ x.fFar.ok ∧ x.fQueue.ok ∧ x.fOwned.length ≤ maxLen ∧ (∀ y, y ∈ x.fOwned → y.ok)

theorem szToken_g (x : GToken) (l : Int) (hx : x.ok) (h0 : 0 ≤ l ∧ l ≤ 1048576) : Valid PP GG F_L_szToken [.agg x.c, .d (.int .i64 l)] (.d (.int .i64 (leftR x.cost l))) [none, none] := by
  refine v_L_szToken [.d (.int .i64 (leftR x.cost l))] rfl rfl ?_
  have hco : x.cost = (x.fNames.length + sumBy List.length x.fNames) := rfl
  unfold GToken.ok maxLen at hx
  obtain ⟨okId0, okParent0, okNames0, okNames1, okMade0, okEnds0, okLimit0, okUses0⟩ := hx
  generalize x.cost = co at hco
  refine W_seq (?_)
  refine u_1 ?_
  have ct := szStringS_g (GG := GG) x.fNames l (by unfold maxLen; omega) (by unfold maxLen; exact okNames1) ⟨by omega, by omega⟩
  obtain ⟨l1, el1⟩ : ∃ z : Int, leftR (x.fNames.length + sumBy List.length x.fNames) l = z := ⟨_, rfl⟩
  rw [el1] at ct
  refine W_seq (?_)
  refine u_8 ct ?_
  clear ct
  refine W_seq (W_seq (?_))
  refine u_1 ?_
  refine W_cond rfl (fun hh0 => W_seq ?_) (fun hh0 => W_skip ?_)
  · refine u_1 ?_
    simp at hh0
    rw [← el1] at hh0
    have hn := leftR_neg (by omega) hh0
    have : leftR co l = -1 := leftR_no (by omega)
    refine W_ret ?_
    simp [Fin, this]
    all_goals omega
  simp at hh0
  rw [← el1] at hh0
  obtain ⟨gl1, jl1⟩ := leftR_pos (Int.not_lt.2 hh0)
  rw [el1] at jl1 hh0
  refine W_seq (?_)
  refine u_1 ?_
  have : leftR co l = l1 := by rw [leftR_yes (by omega)]; omega
  refine W_ret ?_
  simp [Fin, this]
  all_goals omega

theorem szTokenS_g (a : List GToken) (l : Int) (hlen : a.length ≤ maxLen) (hx : ∀ x, x ∈ a → x.ok) (h0 : 0 ≤ l ∧ l ≤ 1048576) :
    Valid PP GG F_L_szTokenS [.d (.slc 7 (rToken a)), .d (.int .i64 l)] (.d (.int .i64 (leftR (a.length + sumBy GToken.cost a) l))) [none, none] := by
  refine v_L_szTokenS [.d (.int .i64 (leftR (a.length + sumBy GToken.cost a) l))] rfl rfl ?_
  unfold maxLen at hlen
  obtain ⟨m, hm⟩ : ∃ z : Int, l - a.length = z := ⟨_, rfl⟩
  have hw : IntKind.i64.wrap (l - a.length) = m := by rw [wrap_id (by omega) (by omega)]; exact hm
  refine W_seq (?_)
  refine u_1 ?_
  refine W_seq (?_)
  refine u_6 hw ?_
  refine W_seq (W_seq (?_))
  refine u_1 ?_
  refine W_cond rfl (fun h => W_seq ?_) (fun h => W_skip ?_)
  · refine u_1 ?_
    simp at h
    have : leftR (a.length + sumBy GToken.cost a) l = -1 := leftR_no (by omega)
    refine W_ret ?_
    simp [Fin, this]
    all_goals omega
  simp at h
  refine W_seq (W_seq (?_))
  refine u_1 ?_
  refine W_block (W_loop (fun n st => ∃ (i : Nat) (v : Int), n = a.length - i ∧ i ≤ a.length ∧ 0 ≤ v ∧ v = m - (sumBy GToken.cost (a.take i) : Nat) ∧
    st = ⟨[], [(0, .d (.slc 7 (rToken a))), (1, .d (.int .i64 v)), (5, .d (.int .i64 i))], [], 0⟩) _ ⟨0, m, rfl, by omega, h, by simp [sumBy], rfl⟩ ?_)
  rintro n st ⟨i, v, rfl, hi, hv, he, rfl⟩
  refine W_seq (W_seq (?_))
  refine u_1 ?_
  refine W_cond rfl (fun h2 => W_skip ?_) (fun h2 => W_exit ?_)
  · simp at h2
    have ha := List.getElem?_eq_getElem h2
    generalize a[i] = x at ha
    have hs := sumBy_succ (f := GToken.cost) ha
    have ht := sumBy_take GToken.cost a (i + 1)
    have ct := szToken_g (GG := GG) x v (hx x (List.mem_of_getElem? ha)) ⟨hv, by omega⟩
    obtain ⟨v2, hv2⟩ : ∃ z : Int, leftR x.cost v = z := ⟨_, rfl⟩
    rw [hv2] at ct
    refine W_seq (W_block (W_seq ?_))
    refine u_14 ha ct ?_
    refine W_seq (?_)
    refine u_1 ?_
    refine W_cond rfl (fun h3 => W_seq ?_) (fun h3 => W_skip ?_)
    · refine u_1 ?_
      simp at h3
      rw [← hv2] at h3
      have hn := leftR_neg (by omega) h3
      have : leftR (a.length + sumBy GToken.cost a) l = -1 := leftR_no (by omega)
      refine W_ret ?_
      simp [Fin, this]
      all_goals omega
    simp at h3
    rw [← hv2] at h3
    obtain ⟨g1, g2⟩ := leftR_pos (Int.not_lt.2 h3)
    rw [hv2] at g2
    refine u_1 ?_
    exact ⟨a.length - (i + 1), by omega, i + 1, v2, rfl, h2, by omega, by omega, by simp [gc, closeN, liveA, gcV, gcO, renA, namesAs, namesA]; rw [wrap_id (by omega) (by omega)]⟩
  · simp at h2
    rw [if_pos rfl]
    rw [List.take_of_length_le h2] at he
    refine W_seq (?_)
    refine u_1 ?_
    have : leftR (a.length + sumBy GToken.cost a) l = v := by rw [leftR_yes (by omega)]; omega
    refine W_ret ?_
    simp [Fin, this]
    all_goals omega

theorem toToken_g (x : GToken) (hx : x.cost ≤ 1099511627776) : Valid PP GG F_L_toToken [.agg x.c] (.agg x.o) [none] := by
  refine v_L_toToken [.agg x.o] rfl rfl ?_
  have hco : x.cost = (x.fNames.length + sumBy List.length x.fNames) := rfl
  refine W_seq (?_)
  refine u_1 ?_
  refine W_seq (?_)
  refine u_1 ?_
  refine W_seq (?_)
  refine u_1 ?_
  refine W_seq (?_)
  refine u_1 ?_
  refine W_seq (?_)
  refine u_8 (toStringS_ok x.fNames (by omega)) ?_
  refine W_seq (?_)
  refine u_1 ?_
  refine W_seq (?_)
  refine u_1 ?_
  refine W_seq (?_)
  refine u_1 ?_
  refine W_seq (?_)
  refine u_1 ?_
  refine W_seq (?_)
  refine u_1 ?_
  refine W_ret ?_
  simp [Fin]
  all_goals omega

theorem toTokenS_g (a : List GToken) (hx : a.length + sumBy GToken.cost a ≤ 1099511627776) : Valid PP GG F_L_toTokenS [.d (.slc 7 (rToken a))] (.own 1 7 (rToken a)) [none] := by
  refine v_L_toTokenS [.own 1 7 (rToken a)] rfl rfl ?_
  refine W_seq (?_)
  refine u_1 ?_
  refine W_seq (?_)
  refine u_3 ?_
  refine W_seq (W_seq (?_))
  refine u_1 ?_
  refine W_block (W_loop (fun n st => ∃ (i : Nat) (R : List (List D)), n = a.length - i ∧ i ≤ a.length ∧ R.length = a.length ∧ (∀ r, r ∈ R → r.length = 7) ∧ R.take i = rToken (a.take i) ∧
    st = ⟨[], [(0, .d (.slc 7 (rToken a))), (3, .sl 0), (4, .d (.int .i64 i))], [(0, .arr 0 1 7 R)], 1⟩) _ ⟨0, List.replicate a.length [.int .i64 0, .int .i64 0, .slc 1 [], .int .i64 0, .int .i64 0, .int .i64 0, .int .i64 0], rfl, by omega, by simp, by intro r hr; rw [List.eq_of_mem_replicate hr]; rfl, rfl, rfl⟩ ?_)
  rintro n st ⟨i, R, rfl, hi, hl, h1, hR, rfl⟩
  refine W_seq (W_seq (?_))
  refine u_1 ?_
  refine W_cond rfl (fun h => W_skip ?_) (fun h => W_exit ?_)
  · simp at h
    have ha := List.getElem?_eq_getElem h
    generalize a[i] = x at ha
    have hg := sumBy_get (f := GToken.cost) ha
    obtain ⟨y0, y1, y2, y3, y4, y5, y6, hd⟩ := rows7 h1 (show i < R.length by omega)
    refine W_seq (W_block ?_)
    refine u_18 ha hd hl (toToken_g x (by omega)) ?_
    refine u_1 ?_
    exact ⟨a.length - (i + 1), by omega, i + 1, R.set i x.row, rfl, h, by simpa using hl, set7 h1 rfl, by rw [take_set_succ (by omega), hR, List.take_add_one, ha, rToken_app]; rfl,
      by simp [gc, closeN, liveA, gcV, gcO, renA, renO, namesAs, namesA, namesO, posn]; rw [wrap_id (by omega) (by omega)]⟩
  · simp at h
    have e : R = rToken a := by rwa [List.take_of_length_le (by omega), List.take_of_length_le (by omega)] at hR
    subst e
    rw [if_pos rfl]
    refine W_seq (?_)
    refine u_1 ?_
    refine W_ret ?_
    simp [Fin]
    all_goals omega

theorem eqToken_g (x y : GToken) (hx : x.cost ≤ 1099511627776) (hy : y.cost ≤ 1099511627776) : Valid PP GG F_L_eqToken [.agg x.c, .agg y.c] (.d (.bool (decide (x = y)))) [none, none] := by
  refine v_L_eqToken [.d (.bool (decide (x = y)))] rfl rfl ?_
  have hcx : x.cost = (x.fNames.length + sumBy List.length x.fNames) := rfl
  have hcy : y.cost = (y.fNames.length + sumBy List.length y.fNames) := rfl
  refine W_seq (?_)
  refine u_1 ?_
  refine W_seq (W_seq (?_))
  refine u_1 ?_
  refine W_cond rfl (fun h => W_seq ?_) (fun h0 => W_skip ?_)
  · refine u_1 ?_
    have : decide (x = y) = false := by rw [decide_eq_false_iff_not]; intro e; rw [e] at h; simp at h
    refine W_ret ?_
    simp [Fin, this]
    all_goals omega
  refine W_seq (W_seq (?_))
  refine u_1 ?_
  refine W_cond rfl (fun h => W_seq ?_) (fun h1 => W_skip ?_)
  · refine u_1 ?_
    have : decide (x = y) = false := by rw [decide_eq_false_iff_not]; intro e; rw [e] at h; simp at h
    refine W_ret ?_
    simp [Fin, this]
    all_goals omega
  refine W_seq (W_seq (?_))
  refine u_8 (eqStringS_ok x.fNames y.fNames (by omega)) ?_
  refine W_cond rfl (fun h => W_seq ?_) (fun h2 => W_skip ?_)
  · refine u_1 ?_
    have : decide (x = y) = false := by rw [decide_eq_false_iff_not]; intro e; rw [e] at h; simp at h
    refine W_ret ?_
    simp [Fin, this]
    all_goals omega
  refine W_seq (W_seq (?_))
  refine u_1 ?_
  refine W_cond rfl (fun h => W_seq ?_) (fun h3 => W_skip ?_)
  · refine u_1 ?_
    have : decide (x = y) = false := by rw [decide_eq_false_iff_not]; intro e; rw [e] at h; simp at h
    refine W_ret ?_
    simp [Fin, this]
    all_goals omega
  refine W_seq (W_seq (?_))
  refine u_1 ?_
  refine W_cond rfl (fun h => W_seq ?_) (fun h4 => W_skip ?_)
  · refine u_1 ?_
    have : decide (x = y) = false := by rw [decide_eq_false_iff_not]; intro e; rw [e] at h; simp at h
    refine W_ret ?_
    simp [Fin, this]
    all_goals omega
  refine W_seq (W_seq (?_))
  refine u_1 ?_
  refine W_cond rfl (fun h => W_seq ?_) (fun h5 => W_skip ?_)
  · refine u_1 ?_
    have : decide (x = y) = false := by rw [decide_eq_false_iff_not]; intro e; rw [e] at h; simp at h
    refine W_ret ?_
    simp [Fin, this]
    all_goals omega
  refine W_seq (W_seq (?_))
  refine u_1 ?_
  refine W_cond rfl (fun h => W_seq ?_) (fun h6 => W_skip ?_)
  · refine u_1 ?_
    have : decide (x = y) = false := by rw [decide_eq_false_iff_not]; intro e; rw [e] at h; simp at h
    refine W_ret ?_
    simp [Fin, this]
    all_goals omega
  refine W_seq (?_)
  refine u_1 ?_
  have : decide (x = y) = true := by
    rw [decide_eq_true_iff]
    cases x; cases y
    simp at h0 h1 h2 h3 h4 h5 h6
    simp_all
  refine W_ret ?_
  simp [Fin, this]
  all_goals omega

theorem eqTokenS_g (a b : List GToken) (hx : a.length + sumBy GToken.cost a ≤ 1099511627776) (hy : b.length + sumBy GToken.cost b ≤ 1099511627776) : Valid PP GG F_L_eqTokenS [.d (.slc 7 (rToken a)), .d (.slc 7 (rToken b))] (.d (.bool (decide (a = b)))) [none, none] := by
  refine v_L_eqTokenS [.d (.bool (decide (a = b)))] rfl rfl ?_
  refine W_seq (?_)
  refine u_1 ?_
  refine W_seq (W_seq (?_))
  refine u_1 ?_
  refine W_cond rfl (fun h => W_seq ?_) (fun hlen => W_skip ?_)
  · refine u_1 ?_
    have : decide (a = b) = false := by rw [decide_eq_false_iff_not]; intro e; subst e; simp at h
    refine W_ret ?_
    simp [Fin, this]
    all_goals omega
  refine W_seq (W_seq (?_))
  simp at hlen
  refine u_1 ?_
  refine W_block (W_loop (fun n st => ∃ i : Nat, n = a.length - i ∧ i ≤ a.length ∧ a.take i = b.take i ∧ st = ⟨[], [(0, .d (.slc 7 (rToken a))), (1, .d (.slc 7 (rToken b))), (5, .d (.int .i64 i))], [], 0⟩) _ ⟨0, rfl, by omega, rfl, rfl⟩ ?_)
  rintro n st ⟨i, rfl, hi, he, rfl⟩
  refine W_seq (W_seq (?_))
  refine u_1 ?_
  refine W_cond rfl (fun h => W_skip ?_) (fun h => W_exit ?_)
  · simp at h
    have ha := List.getElem?_eq_getElem h
    have hb := List.getElem?_eq_getElem (show i < b.length by omega)
    generalize a[i] = x at ha
    generalize b[i]'_ = y at hb
    have ga := sumBy_get (f := GToken.cost) ha
    have gb := sumBy_get (f := GToken.cost) hb
    refine W_seq (W_block (W_seq ?_))
    refine u_19 ha hb (eqToken_g x y (by omega) (by omega)) ?_
    refine W_cond rfl (fun h2 => W_seq ?_) (fun h2 => W_skip ?_)
    · refine u_1 ?_
      have : decide (a = b) = false := by rw [decide_eq_false_iff_not]; intro e; subst e; rw [ha] at hb; cases hb; simp at h2
      refine W_ret ?_
      simp [Fin, this]
      all_goals omega
    refine u_1 ?_
    have hxy : x = y := by simpa using h2
    subst hxy
    exact ⟨a.length - (i + 1), by omega, i + 1, rfl, h, take_succ_eq he ha hb, by simp [gc, closeN, liveA, gcV, gcO, renA, namesAs, namesA]; rw [wrap_id (by omega) (by omega)]⟩
  · simp at h
    rw [if_pos rfl]
    refine W_seq (?_)
    refine u_1 ?_
    have : decide (a = b) = true := by
      rw [decide_eq_true_iff]
      rwa [List.take_of_length_le h, List.take_of_length_le (by omega)] at he
    refine W_ret ?_
    simp [Fin, this]
    all_goals omega

theorem szForest_g (x : GForest) (l : Int) (hx : x.ok) (h0 : 0 ≤ l ∧ l ≤ 1048576) : Valid PP GG F_L_szForest [.agg x.c, .d (.int .i64 l)] (.d (.int .i64 (leftR x.cost l))) [none, none] := by
  refine v_L_szForest [.d (.int .i64 (leftR x.cost l))] rfl rfl ?_
  have hco : x.cost = (x.fTokens.length + sumBy GToken.cost x.fTokens) := rfl
  unfold GForest.ok maxLen at hx
  obtain ⟨okTokens0, okTokens1⟩ := hx
  generalize x.cost = co at hco
  refine W_seq (?_)
  refine u_1 ?_
  have ct := szTokenS_g (GG := GG) x.fTokens l (by unfold maxLen; omega) okTokens1 ⟨by omega, by omega⟩
  obtain ⟨l1, el1⟩ : ∃ z : Int, leftR (x.fTokens.length + sumBy GToken.cost x.fTokens) l = z := ⟨_, rfl⟩
  rw [el1] at ct
  refine W_seq (?_)
  refine u_8 ct ?_
  clear ct
  refine W_seq (W_seq (?_))
  refine u_1 ?_
  refine W_cond rfl (fun hh0 => W_seq ?_) (fun hh0 => W_skip ?_)
  · refine u_1 ?_
    simp at hh0
    rw [← el1] at hh0
    have hn := leftR_neg (by omega) hh0
    have : leftR co l = -1 := leftR_no (by omega)
    refine W_ret ?_
    simp [Fin, this]
    all_goals omega
  simp at hh0
  rw [← el1] at hh0
  obtain ⟨gl1, jl1⟩ := leftR_pos (Int.not_lt.2 hh0)
  rw [el1] at jl1 hh0
  refine W_seq (?_)
  refine u_1 ?_
  have : leftR co l = l1 := by rw [leftR_yes (by omega)]; omega
  refine W_ret ?_
  simp [Fin, this]
  all_goals omega

theorem toForest_g (x : GForest) (hx : x.cost ≤ 1099511627776) : Valid PP GG F_L_toForest [.agg x.c] (.agg x.o) [none] := by
  refine v_L_toForest [.agg x.o] rfl rfl ?_
  have hco : x.cost = (x.fTokens.length + sumBy GToken.cost x.fTokens) := rfl
  refine W_seq (?_)
  refine u_1 ?_
  refine W_seq (?_)
  refine u_1 ?_
  refine W_seq (?_)
  refine u_8 (toTokenS_g x.fTokens (by omega)) ?_
  refine W_seq (?_)
  refine u_1 ?_
  refine W_ret ?_
  simp [Fin]
  all_goals omega

theorem eqForest_g (x y : GForest) (hx : x.cost ≤ 1099511627776) (hy : y.cost ≤ 1099511627776) : Valid PP GG F_L_eqForest [.agg x.c, .agg y.c] (.d (.bool (decide (x = y)))) [none, none] := by
  refine v_L_eqForest [.d (.bool (decide (x = y)))] rfl rfl ?_
  have hcx : x.cost = (x.fTokens.length + sumBy GToken.cost x.fTokens) := rfl
  have hcy : y.cost = (y.fTokens.length + sumBy GToken.cost y.fTokens) := rfl
  refine W_seq (?_)
  refine u_1 ?_
  refine W_seq (W_seq (?_))
  refine u_8 (eqTokenS_g x.fTokens y.fTokens (by omega) (by omega)) ?_
  refine W_cond rfl (fun h => W_seq ?_) (fun h0 => W_skip ?_)
  · refine u_1 ?_
    have : decide (x = y) = false := by rw [decide_eq_false_iff_not]; intro e; rw [e] at h; simp at h
    refine W_ret ?_
    simp [Fin, this]
    all_goals omega
  refine W_seq (?_)
  refine u_1 ?_
  have : decide (x = y) = true := by
    rw [decide_eq_true_iff]
    cases x; cases y
    simp at h0
    simp_all
  refine W_ret ?_
  simp [Fin, this]
  all_goals omega

theorem szLease_g (x : GLease) (l : Int) (hx : x.ok) (h0 : 0 ≤ l ∧ l ≤ 1048576) : Valid PP GG F_L_szLease [.agg x.c, .d (.int .i64 l)] (.d (.int .i64 (leftR x.cost l))) [none, none] := by
  refine v_L_szLease [.d (.int .i64 (leftR x.cost l))] rfl rfl ?_
  have hco : x.cost = x.fPath.length := rfl
  unfold GLease.ok maxLen at hx
  obtain ⟨okId0, okToken0, okPath0, okMade0, okEnds0, okLimit0⟩ := hx
  generalize x.cost = co at hco
  refine W_seq (?_)
  refine u_1 ?_
  obtain ⟨l1, el1⟩ : ∃ z : Int, l - x.fPath.length = z := ⟨_, rfl⟩
  have wl1 : IntKind.i64.wrap (l - x.fPath.length) = l1 := by rw [wrap_id (by omega) (by omega)]; exact el1
  refine W_seq (?_)
  refine u_20 ?_
  refine W_seq (W_seq (?_))
  refine u_1 ?_
  refine W_cond rfl (fun hh0 => W_seq ?_) (fun hh0 => W_skip ?_)
  · refine u_1 ?_
    simp at hh0
    have : leftR co l = -1 := leftR_no (by omega)
    refine W_ret ?_
    simp [Fin, this]
    all_goals omega
  simp at hh0
  refine W_seq (?_)
  refine u_1 ?_
  have : leftR co l = l1 := by rw [leftR_yes (by omega)]; omega
  refine W_ret ?_
  simp [Fin, this]
  all_goals omega

theorem szLeaseS_g (a : List GLease) (l : Int) (hlen : a.length ≤ maxLen) (hx : ∀ x, x ∈ a → x.ok) (h0 : 0 ≤ l ∧ l ≤ 1048576) :
    Valid PP GG F_L_szLeaseS [.d (.slc 6 (rLease a)), .d (.int .i64 l)] (.d (.int .i64 (leftR (a.length + sumBy GLease.cost a) l))) [none, none] := by
  refine v_L_szLeaseS [.d (.int .i64 (leftR (a.length + sumBy GLease.cost a) l))] rfl rfl ?_
  unfold maxLen at hlen
  obtain ⟨m, hm⟩ : ∃ z : Int, l - a.length = z := ⟨_, rfl⟩
  have hw : IntKind.i64.wrap (l - a.length) = m := by rw [wrap_id (by omega) (by omega)]; exact hm
  refine W_seq (?_)
  refine u_1 ?_
  refine W_seq (?_)
  refine u_6 hw ?_
  refine W_seq (W_seq (?_))
  refine u_1 ?_
  refine W_cond rfl (fun h => W_seq ?_) (fun h => W_skip ?_)
  · refine u_1 ?_
    simp at h
    have : leftR (a.length + sumBy GLease.cost a) l = -1 := leftR_no (by omega)
    refine W_ret ?_
    simp [Fin, this]
    all_goals omega
  simp at h
  refine W_seq (W_seq (?_))
  refine u_1 ?_
  refine W_block (W_loop (fun n st => ∃ (i : Nat) (v : Int), n = a.length - i ∧ i ≤ a.length ∧ 0 ≤ v ∧ v = m - (sumBy GLease.cost (a.take i) : Nat) ∧
    st = ⟨[], [(0, .d (.slc 6 (rLease a))), (1, .d (.int .i64 v)), (5, .d (.int .i64 i))], [], 0⟩) _ ⟨0, m, rfl, by omega, h, by simp [sumBy], rfl⟩ ?_)
  rintro n st ⟨i, v, rfl, hi, hv, he, rfl⟩
  refine W_seq (W_seq (?_))
  refine u_1 ?_
  refine W_cond rfl (fun h2 => W_skip ?_) (fun h2 => W_exit ?_)
  · simp at h2
    have ha := List.getElem?_eq_getElem h2
    generalize a[i] = x at ha
    have hs := sumBy_succ (f := GLease.cost) ha
    have ht := sumBy_take GLease.cost a (i + 1)
    have ct := szLease_g (GG := GG) x v (hx x (List.mem_of_getElem? ha)) ⟨hv, by omega⟩
    obtain ⟨v2, hv2⟩ : ∃ z : Int, leftR x.cost v = z := ⟨_, rfl⟩
    rw [hv2] at ct
    refine W_seq (W_block (W_seq ?_))
    refine u_14 ha ct ?_
    refine W_seq (?_)
    refine u_1 ?_
    refine W_cond rfl (fun h3 => W_seq ?_) (fun h3 => W_skip ?_)
    · refine u_1 ?_
      simp at h3
      rw [← hv2] at h3
      have hn := leftR_neg (by omega) h3
      have : leftR (a.length + sumBy GLease.cost a) l = -1 := leftR_no (by omega)
      refine W_ret ?_
      simp [Fin, this]
      all_goals omega
    simp at h3
    rw [← hv2] at h3
    obtain ⟨g1, g2⟩ := leftR_pos (Int.not_lt.2 h3)
    rw [hv2] at g2
    refine u_1 ?_
    exact ⟨a.length - (i + 1), by omega, i + 1, v2, rfl, h2, by omega, by omega, by simp [gc, closeN, liveA, gcV, gcO, renA, namesAs, namesA]; rw [wrap_id (by omega) (by omega)]⟩
  · simp at h2
    rw [if_pos rfl]
    rw [List.take_of_length_le h2] at he
    refine W_seq (?_)
    refine u_1 ?_
    have : leftR (a.length + sumBy GLease.cost a) l = v := by rw [leftR_yes (by omega)]; omega
    refine W_ret ?_
    simp [Fin, this]
    all_goals omega

theorem toLease_g (x : GLease) (hx : x.cost ≤ 1099511627776) : Valid PP GG F_L_toLease [.agg x.c] (.agg x.o) [none] := by
  refine v_L_toLease [.agg x.o] rfl rfl ?_
  have hco : x.cost = x.fPath.length := rfl
  refine W_seq (?_)
  refine u_1 ?_
  refine W_seq (?_)
  refine u_1 ?_
  refine W_seq (?_)
  refine u_1 ?_
  refine W_seq (?_)
  refine u_1 ?_
  refine W_seq (?_)
  refine u_1 ?_
  refine W_seq (?_)
  refine u_1 ?_
  refine W_seq (?_)
  refine u_1 ?_
  refine W_seq (?_)
  refine u_1 ?_
  refine W_seq (?_)
  refine u_1 ?_
  refine W_ret ?_
  simp [Fin]
  all_goals omega

theorem toLeaseS_g (a : List GLease) (hx : a.length + sumBy GLease.cost a ≤ 1099511627776) : Valid PP GG F_L_toLeaseS [.d (.slc 6 (rLease a))] (.own 0 6 (rLease a)) [none] := by
  refine v_L_toLeaseS [.own 0 6 (rLease a)] rfl rfl ?_
  refine W_seq (?_)
  refine u_1 ?_
  refine W_seq (?_)
  refine u_3 ?_
  refine W_seq (W_seq (?_))
  refine u_1 ?_
  refine W_block (W_loop (fun n st => ∃ (i : Nat) (R : List (List D)), n = a.length - i ∧ i ≤ a.length ∧ R.length = a.length ∧ (∀ r, r ∈ R → r.length = 6) ∧ R.take i = rLease (a.take i) ∧
    st = ⟨[], [(0, .d (.slc 6 (rLease a))), (3, .sl 0), (4, .d (.int .i64 i))], [(0, .arr 0 0 6 R)], 1⟩) _ ⟨0, List.replicate a.length [.int .i64 0, .int .i64 0, .str [], .int .i64 0, .int .i64 0, .int .i64 0], rfl, by omega, by simp, by intro r hr; rw [List.eq_of_mem_replicate hr]; rfl, rfl, rfl⟩ ?_)
  rintro n st ⟨i, R, rfl, hi, hl, h1, hR, rfl⟩
  refine W_seq (W_seq (?_))
  refine u_1 ?_
  refine W_cond rfl (fun h => W_skip ?_) (fun h => W_exit ?_)
  · simp at h
    have ha := List.getElem?_eq_getElem h
    generalize a[i] = x at ha
    have hg := sumBy_get (f := GLease.cost) ha
    obtain ⟨y0, y1, y2, y3, y4, y5, hd⟩ := rows6 h1 (show i < R.length by omega)
    refine W_seq (W_block ?_)
    refine u_18 ha hd hl (toLease_g x (by omega)) ?_
    refine u_1 ?_
    exact ⟨a.length - (i + 1), by omega, i + 1, R.set i x.row, rfl, h, by simpa using hl, set6 h1 rfl, by rw [take_set_succ (by omega), hR, List.take_add_one, ha, rLease_app]; rfl,
      by simp [gc, closeN, liveA, gcV, gcO, renA, renO, namesAs, namesA, namesO, posn]; rw [wrap_id (by omega) (by omega)]⟩
  · simp at h
    have e : R = rLease a := by rwa [List.take_of_length_le (by omega), List.take_of_length_le (by omega)] at hR
    subst e
    rw [if_pos rfl]
    refine W_seq (?_)
    refine u_1 ?_
    refine W_ret ?_
    simp [Fin]
    all_goals omega

theorem eqLease_g (x y : GLease) (hx : x.cost ≤ 1099511627776) (hy : y.cost ≤ 1099511627776) : Valid PP GG F_L_eqLease [.agg x.c, .agg y.c] (.d (.bool (decide (x = y)))) [none, none] := by
  refine v_L_eqLease [.d (.bool (decide (x = y)))] rfl rfl ?_
  have hcx : x.cost = x.fPath.length := rfl
  have hcy : y.cost = y.fPath.length := rfl
  refine W_seq (?_)
  refine u_1 ?_
  refine W_seq (W_seq (?_))
  refine u_1 ?_
  refine W_cond rfl (fun h => W_seq ?_) (fun h0 => W_skip ?_)
  · refine u_1 ?_
    have : decide (x = y) = false := by rw [decide_eq_false_iff_not]; intro e; rw [e] at h; simp at h
    refine W_ret ?_
    simp [Fin, this]
    all_goals omega
  refine W_seq (W_seq (?_))
  refine u_1 ?_
  refine W_cond rfl (fun h => W_seq ?_) (fun h1 => W_skip ?_)
  · refine u_1 ?_
    have : decide (x = y) = false := by rw [decide_eq_false_iff_not]; intro e; rw [e] at h; simp at h
    refine W_ret ?_
    simp [Fin, this]
    all_goals omega
  refine W_seq (W_seq (?_))
  refine u_1 ?_
  refine W_cond rfl (fun h => W_seq ?_) (fun h2 => W_skip ?_)
  · refine u_1 ?_
    have : decide (x = y) = false := by rw [decide_eq_false_iff_not]; intro e; rw [e] at h; simp at h
    refine W_ret ?_
    simp [Fin, this]
    all_goals omega
  refine W_seq (W_seq (?_))
  refine u_1 ?_
  refine W_cond rfl (fun h => W_seq ?_) (fun h3 => W_skip ?_)
  · refine u_1 ?_
    have : decide (x = y) = false := by rw [decide_eq_false_iff_not]; intro e; rw [e] at h; simp at h
    refine W_ret ?_
    simp [Fin, this]
    all_goals omega
  refine W_seq (W_seq (?_))
  refine u_1 ?_
  refine W_cond rfl (fun h => W_seq ?_) (fun h4 => W_skip ?_)
  · refine u_1 ?_
    have : decide (x = y) = false := by rw [decide_eq_false_iff_not]; intro e; rw [e] at h; simp at h
    refine W_ret ?_
    simp [Fin, this]
    all_goals omega
  refine W_seq (W_seq (?_))
  refine u_1 ?_
  refine W_cond rfl (fun h => W_seq ?_) (fun h5 => W_skip ?_)
  · refine u_1 ?_
    have : decide (x = y) = false := by rw [decide_eq_false_iff_not]; intro e; rw [e] at h; simp at h
    refine W_ret ?_
    simp [Fin, this]
    all_goals omega
  refine W_seq (?_)
  refine u_1 ?_
  have : decide (x = y) = true := by
    rw [decide_eq_true_iff]
    cases x; cases y
    simp at h0 h1 h2 h3 h4 h5
    simp_all
  refine W_ret ?_
  simp [Fin, this]
  all_goals omega

theorem eqLeaseS_g (a b : List GLease) (hx : a.length + sumBy GLease.cost a ≤ 1099511627776) (hy : b.length + sumBy GLease.cost b ≤ 1099511627776) : Valid PP GG F_L_eqLeaseS [.d (.slc 6 (rLease a)), .d (.slc 6 (rLease b))] (.d (.bool (decide (a = b)))) [none, none] := by
  refine v_L_eqLeaseS [.d (.bool (decide (a = b)))] rfl rfl ?_
  refine W_seq (?_)
  refine u_1 ?_
  refine W_seq (W_seq (?_))
  refine u_1 ?_
  refine W_cond rfl (fun h => W_seq ?_) (fun hlen => W_skip ?_)
  · refine u_1 ?_
    have : decide (a = b) = false := by rw [decide_eq_false_iff_not]; intro e; subst e; simp at h
    refine W_ret ?_
    simp [Fin, this]
    all_goals omega
  refine W_seq (W_seq (?_))
  simp at hlen
  refine u_1 ?_
  refine W_block (W_loop (fun n st => ∃ i : Nat, n = a.length - i ∧ i ≤ a.length ∧ a.take i = b.take i ∧ st = ⟨[], [(0, .d (.slc 6 (rLease a))), (1, .d (.slc 6 (rLease b))), (5, .d (.int .i64 i))], [], 0⟩) _ ⟨0, rfl, by omega, rfl, rfl⟩ ?_)
  rintro n st ⟨i, rfl, hi, he, rfl⟩
  refine W_seq (W_seq (?_))
  refine u_1 ?_
  refine W_cond rfl (fun h => W_skip ?_) (fun h => W_exit ?_)
  · simp at h
    have ha := List.getElem?_eq_getElem h
    have hb := List.getElem?_eq_getElem (show i < b.length by omega)
    generalize a[i] = x at ha
    generalize b[i]'_ = y at hb
    have ga := sumBy_get (f := GLease.cost) ha
    have gb := sumBy_get (f := GLease.cost) hb
    refine W_seq (W_block (W_seq ?_))
    refine u_19 ha hb (eqLease_g x y (by omega) (by omega)) ?_
    refine W_cond rfl (fun h2 => W_seq ?_) (fun h2 => W_skip ?_)
    · refine u_1 ?_
      have : decide (a = b) = false := by rw [decide_eq_false_iff_not]; intro e; subst e; rw [ha] at hb; cases hb; simp at h2
      refine W_ret ?_
      simp [Fin, this]
      all_goals omega
    refine u_1 ?_
    have hxy : x = y := by simpa using h2
    subst hxy
    exact ⟨a.length - (i + 1), by omega, i + 1, rfl, h, take_succ_eq he ha hb, by simp [gc, closeN, liveA, gcV, gcO, renA, namesAs, namesA]; rw [wrap_id (by omega) (by omega)]⟩
  · simp at h
    rw [if_pos rfl]
    refine W_seq (?_)
    refine u_1 ?_
    have : decide (a = b) = true := by
      rw [decide_eq_true_iff]
      rwa [List.take_of_length_le h, List.take_of_length_le (by omega)] at he
    refine W_ret ?_
    simp [Fin, this]
    all_goals omega

theorem szBook_g (x : GBook) (l : Int) (hx : x.ok) (h0 : 0 ≤ l ∧ l ≤ 1048576) : Valid PP GG F_L_szBook [.agg x.c, .d (.int .i64 l)] (.d (.int .i64 (leftR x.cost l))) [none, none] := by
  refine v_L_szBook [.d (.int .i64 (leftR x.cost l))] rfl rfl ?_
  have hco : x.cost = (x.fLeases.length + sumBy GLease.cost x.fLeases) := rfl
  unfold GBook.ok maxLen at hx
  obtain ⟨okLeases0, okLeases1⟩ := hx
  generalize x.cost = co at hco
  refine W_seq (?_)
  refine u_1 ?_
  have ct := szLeaseS_g (GG := GG) x.fLeases l (by unfold maxLen; omega) okLeases1 ⟨by omega, by omega⟩
  obtain ⟨l1, el1⟩ : ∃ z : Int, leftR (x.fLeases.length + sumBy GLease.cost x.fLeases) l = z := ⟨_, rfl⟩
  rw [el1] at ct
  refine W_seq (?_)
  refine u_8 ct ?_
  clear ct
  refine W_seq (W_seq (?_))
  refine u_1 ?_
  refine W_cond rfl (fun hh0 => W_seq ?_) (fun hh0 => W_skip ?_)
  · refine u_1 ?_
    simp at hh0
    rw [← el1] at hh0
    have hn := leftR_neg (by omega) hh0
    have : leftR co l = -1 := leftR_no (by omega)
    refine W_ret ?_
    simp [Fin, this]
    all_goals omega
  simp at hh0
  rw [← el1] at hh0
  obtain ⟨gl1, jl1⟩ := leftR_pos (Int.not_lt.2 hh0)
  rw [el1] at jl1 hh0
  refine W_seq (?_)
  refine u_1 ?_
  have : leftR co l = l1 := by rw [leftR_yes (by omega)]; omega
  refine W_ret ?_
  simp [Fin, this]
  all_goals omega

theorem toBook_g (x : GBook) (hx : x.cost ≤ 1099511627776) : Valid PP GG F_L_toBook [.agg x.c] (.agg x.o) [none] := by
  refine v_L_toBook [.agg x.o] rfl rfl ?_
  have hco : x.cost = (x.fLeases.length + sumBy GLease.cost x.fLeases) := rfl
  refine W_seq (?_)
  refine u_1 ?_
  refine W_seq (?_)
  refine u_1 ?_
  refine W_seq (?_)
  refine u_8 (toLeaseS_g x.fLeases (by omega)) ?_
  refine W_seq (?_)
  refine u_1 ?_
  refine W_ret ?_
  simp [Fin]
  all_goals omega

theorem eqBook_g (x y : GBook) (hx : x.cost ≤ 1099511627776) (hy : y.cost ≤ 1099511627776) : Valid PP GG F_L_eqBook [.agg x.c, .agg y.c] (.d (.bool (decide (x = y)))) [none, none] := by
  refine v_L_eqBook [.d (.bool (decide (x = y)))] rfl rfl ?_
  have hcx : x.cost = (x.fLeases.length + sumBy GLease.cost x.fLeases) := rfl
  have hcy : y.cost = (y.fLeases.length + sumBy GLease.cost y.fLeases) := rfl
  refine W_seq (?_)
  refine u_1 ?_
  refine W_seq (W_seq (?_))
  refine u_8 (eqLeaseS_g x.fLeases y.fLeases (by omega) (by omega)) ?_
  refine W_cond rfl (fun h => W_seq ?_) (fun h0 => W_skip ?_)
  · refine u_1 ?_
    have : decide (x = y) = false := by rw [decide_eq_false_iff_not]; intro e; rw [e] at h; simp at h
    refine W_ret ?_
    simp [Fin, this]
    all_goals omega
  refine W_seq (?_)
  refine u_1 ?_
  have : decide (x = y) = true := by
    rw [decide_eq_true_iff]
    cases x; cases y
    simp at h0
    simp_all
  refine W_ret ?_
  simp [Fin, this]
  all_goals omega

theorem szUser_g (x : GUser) (l : Int) (hx : x.ok) (h0 : 0 ≤ l ∧ l ≤ 1048576) : Valid PP GG F_L_szUser [.agg x.c, .d (.int .i64 l)] (.d (.int .i64 (leftR x.cost l))) [none, none] := by
  refine v_L_szUser [.d (.int .i64 (leftR x.cost l))] rfl rfl ?_
  have hco : x.cost = x.fName.length + x.fPass.length := rfl
  unfold GUser.ok maxLen at hx
  obtain ⟨okName0, okPass0⟩ := hx
  generalize x.cost = co at hco
  refine W_seq (?_)
  refine u_1 ?_
  obtain ⟨l1, el1⟩ : ∃ z : Int, l - x.fName.length = z := ⟨_, rfl⟩
  have wl1 : IntKind.i64.wrap (l - x.fName.length) = l1 := by rw [wrap_id (by omega) (by omega)]; exact el1
  refine W_seq (?_)
  refine u_20 ?_
  refine W_seq (W_seq (?_))
  refine u_1 ?_
  refine W_cond rfl (fun hh0 => W_seq ?_) (fun hh0 => W_skip ?_)
  · refine u_1 ?_
    simp at hh0
    have : leftR co l = -1 := leftR_no (by omega)
    refine W_ret ?_
    simp [Fin, this]
    all_goals omega
  simp at hh0
  obtain ⟨l2, el2⟩ : ∃ z : Int, l1 - x.fPass.length = z := ⟨_, rfl⟩
  have wl2 : IntKind.i64.wrap (l1 - x.fPass.length) = l2 := by rw [wrap_id (by omega) (by omega)]; exact el2
  refine W_seq (?_)
  refine u_21 ?_
  refine W_seq (W_seq (?_))
  refine u_1 ?_
  refine W_cond rfl (fun hh1 => W_seq ?_) (fun hh1 => W_skip ?_)
  · refine u_1 ?_
    simp at hh1
    have : leftR co l = -1 := leftR_no (by omega)
    refine W_ret ?_
    simp [Fin, this]
    all_goals omega
  simp at hh1
  refine W_seq (?_)
  refine u_1 ?_
  have : leftR co l = l2 := by rw [leftR_yes (by omega)]; omega
  refine W_ret ?_
  simp [Fin, this]
  all_goals omega

theorem szUserS_g (a : List GUser) (l : Int) (hlen : a.length ≤ maxLen) (hx : ∀ x, x ∈ a → x.ok) (h0 : 0 ≤ l ∧ l ≤ 1048576) :
    Valid PP GG F_L_szUserS [.d (.slc 2 (rUser a)), .d (.int .i64 l)] (.d (.int .i64 (leftR (a.length + sumBy GUser.cost a) l))) [none, none] := by
  refine v_L_szUserS [.d (.int .i64 (leftR (a.length + sumBy GUser.cost a) l))] rfl rfl ?_
  unfold maxLen at hlen
  obtain ⟨m, hm⟩ : ∃ z : Int, l - a.length = z := ⟨_, rfl⟩
  have hw : IntKind.i64.wrap (l - a.length) = m := by rw [wrap_id (by omega) (by omega)]; exact hm
  refine W_seq (?_)
  refine u_1 ?_
  refine W_seq (?_)
  refine u_6 hw ?_
  refine W_seq (W_seq (?_))
  refine u_1 ?_
  refine W_cond rfl (fun h => W_seq ?_) (fun h => W_skip ?_)
  · refine u_1 ?_
    simp at h
    have : leftR (a.length + sumBy GUser.cost a) l = -1 := leftR_no (by omega)
    refine W_ret ?_
    simp [Fin, this]
    all_goals omega
  simp at h
  refine W_seq (W_seq (?_))
  refine u_1 ?_
  refine W_block (W_loop (fun n st => ∃ (i : Nat) (v : Int), n = a.length - i ∧ i ≤ a.length ∧ 0 ≤ v ∧ v = m - (sumBy GUser.cost (a.take i) : Nat) ∧
    st = ⟨[], [(0, .d (.slc 2 (rUser a))), (1, .d (.int .i64 v)), (5, .d (.int .i64 i))], [], 0⟩) _ ⟨0, m, rfl, by omega, h, by simp [sumBy], rfl⟩ ?_)
  rintro n st ⟨i, v, rfl, hi, hv, he, rfl⟩
  refine W_seq (W_seq (?_))
  refine u_1 ?_
  refine W_cond rfl (fun h2 => W_skip ?_) (fun h2 => W_exit ?_)
  · simp at h2
    have ha := List.getElem?_eq_getElem h2
    generalize a[i] = x at ha
    have hs := sumBy_succ (f := GUser.cost) ha
    have ht := sumBy_take GUser.cost a (i + 1)
    have ct := szUser_g (GG := GG) x v (hx x (List.mem_of_getElem? ha)) ⟨hv, by omega⟩
    obtain ⟨v2, hv2⟩ : ∃ z : Int, leftR x.cost v = z := ⟨_, rfl⟩
    rw [hv2] at ct
    refine W_seq (W_block (W_seq ?_))
    refine u_14 ha ct ?_
    refine W_seq (?_)
    refine u_1 ?_
    refine W_cond rfl (fun h3 => W_seq ?_) (fun h3 => W_skip ?_)
    · refine u_1 ?_
      simp at h3
      rw [← hv2] at h3
      have hn := leftR_neg (by omega) h3
      have : leftR (a.length + sumBy GUser.cost a) l = -1 := leftR_no (by omega)
      refine W_ret ?_
      simp [Fin, this]
      all_goals omega
    simp at h3
    rw [← hv2] at h3
    obtain ⟨g1, g2⟩ := leftR_pos (Int.not_lt.2 h3)
    rw [hv2] at g2
    refine u_1 ?_
    exact ⟨a.length - (i + 1), by omega, i + 1, v2, rfl, h2, by omega, by omega, by simp [gc, closeN, liveA, gcV, gcO, renA, namesAs, namesA]; rw [wrap_id (by omega) (by omega)]⟩
  · simp at h2
    rw [if_pos rfl]
    rw [List.take_of_length_le h2] at he
    refine W_seq (?_)
    refine u_1 ?_
    have : leftR (a.length + sumBy GUser.cost a) l = v := by rw [leftR_yes (by omega)]; omega
    refine W_ret ?_
    simp [Fin, this]
    all_goals omega

theorem toUser_g (x : GUser) (hx : x.cost ≤ 1099511627776) : Valid PP GG F_L_toUser [.agg x.c] (.agg x.o) [none] := by
  refine v_L_toUser [.agg x.o] rfl rfl ?_
  have hco : x.cost = x.fName.length + x.fPass.length := rfl
  refine W_seq (?_)
  refine u_1 ?_
  refine W_seq (?_)
  refine u_1 ?_
  refine W_seq (?_)
  refine u_1 ?_
  refine W_seq (?_)
  refine u_1 ?_
  refine W_seq (?_)
  refine u_1 ?_
  refine W_ret ?_
  simp [Fin]
  all_goals omega

theorem rows2 {R : List (List D)} {i : Nat} (h : ∀ r, r ∈ R → r.length = 2) (hi : i < R.length) : ∃ y0 y1, R[i]? = some [y0, y1] := by
  have h1 := h _ (List.getElem_mem hi)
  have h2 := List.getElem?_eq_getElem hi
  generalize R[i] = r at h1 h2
  match r, h1 with
  | [y0, y1], _ => exact ⟨y0, y1, h2⟩

theorem set2 {R : List (List D)} {i : Nat} {row : List D} (h : ∀ r, r ∈ R → r.length = 2) (hr : row.length = 2) : ∀ r, r ∈ R.set i row → r.length = 2 := by
  intro r hm
  rcases List.mem_or_eq_of_mem_set hm with hm | rfl
  · exact h r hm
  · exact hr

theorem toUserS_g (a : List GUser) (hx : a.length + sumBy GUser.cost a ≤ 1099511627776) : Valid PP GG F_L_toUserS [.d (.slc 2 (rUser a))] (.own 0 2 (rUser a)) [none] := by
  refine v_L_toUserS [.own 0 2 (rUser a)] rfl rfl ?_
  refine W_seq (?_)
  refine u_1 ?_
  refine W_seq (?_)
  refine u_3 ?_
  refine W_seq (W_seq (?_))
  refine u_1 ?_
  refine W_block (W_loop (fun n st => ∃ (i : Nat) (R : List (List D)), n = a.length - i ∧ i ≤ a.length ∧ R.length = a.length ∧ (∀ r, r ∈ R → r.length = 2) ∧ R.take i = rUser (a.take i) ∧
    st = ⟨[], [(0, .d (.slc 2 (rUser a))), (3, .sl 0), (4, .d (.int .i64 i))], [(0, .arr 0 0 2 R)], 1⟩) _ ⟨0, List.replicate a.length [.str [], .str []], rfl, by omega, by simp, by intro r hr; rw [List.eq_of_mem_replicate hr]; rfl, rfl, rfl⟩ ?_)
  rintro n st ⟨i, R, rfl, hi, hl, h1, hR, rfl⟩
  refine W_seq (W_seq (?_))
  refine u_1 ?_
  refine W_cond rfl (fun h => W_skip ?_) (fun h => W_exit ?_)
  · simp at h
    have ha := List.getElem?_eq_getElem h
    generalize a[i] = x at ha
    have hg := sumBy_get (f := GUser.cost) ha
    obtain ⟨y0, y1, hd⟩ := rows2 h1 (show i < R.length by omega)
    refine W_seq (W_block ?_)
    refine u_18 ha hd hl (toUser_g x (by omega)) ?_
    refine u_1 ?_
    exact ⟨a.length - (i + 1), by omega, i + 1, R.set i x.row, rfl, h, by simpa using hl, set2 h1 rfl, by rw [take_set_succ (by omega), hR, List.take_add_one, ha, rUser_app]; rfl,
      by simp [gc, closeN, liveA, gcV, gcO, renA, renO, namesAs, namesA, namesO, posn]; rw [wrap_id (by omega) (by omega)]⟩
  · simp at h
    have e : R = rUser a := by rwa [List.take_of_length_le (by omega), List.take_of_length_le (by omega)] at hR
    subst e
    rw [if_pos rfl]
    refine W_seq (?_)
    refine u_1 ?_
    refine W_ret ?_
    simp [Fin]
    all_goals omega

theorem eqUser_g (x y : GUser) (hx : x.cost ≤ 1099511627776) (hy : y.cost ≤ 1099511627776) : Valid PP GG F_L_eqUser [.agg x.c, .agg y.c] (.d (.bool (decide (x = y)))) [none, none] := by
  refine v_L_eqUser [.d (.bool (decide (x = y)))] rfl rfl ?_
  have hcx : x.cost = x.fName.length + x.fPass.length := rfl
  have hcy : y.cost = y.fName.length + y.fPass.length := rfl
  refine W_seq (?_)
  refine u_1 ?_
  refine W_seq (W_seq (?_))
  refine u_1 ?_
  refine W_cond rfl (fun h => W_seq ?_) (fun h0 => W_skip ?_)
  · refine u_1 ?_
    have : decide (x = y) = false := by rw [decide_eq_false_iff_not]; intro e; rw [e] at h; simp at h
    refine W_ret ?_
    simp [Fin, this]
    all_goals omega
  refine W_seq (W_seq (?_))
  refine u_1 ?_
  refine W_cond rfl (fun h => W_seq ?_) (fun h1 => W_skip ?_)
  · refine u_1 ?_
    have : decide (x = y) = false := by rw [decide_eq_false_iff_not]; intro e; rw [e] at h; simp at h
    refine W_ret ?_
    simp [Fin, this]
    all_goals omega
  refine W_seq (?_)
  refine u_1 ?_
  have : decide (x = y) = true := by
    rw [decide_eq_true_iff]
    cases x; cases y
    simp at h0 h1
    simp_all
  refine W_ret ?_
  simp [Fin, this]
  all_goals omega

theorem eqUserS_g (a b : List GUser) (hx : a.length + sumBy GUser.cost a ≤ 1099511627776) (hy : b.length + sumBy GUser.cost b ≤ 1099511627776) : Valid PP GG F_L_eqUserS [.d (.slc 2 (rUser a)), .d (.slc 2 (rUser b))] (.d (.bool (decide (a = b)))) [none, none] := by
  refine v_L_eqUserS [.d (.bool (decide (a = b)))] rfl rfl ?_
  refine W_seq (?_)
  refine u_1 ?_
  refine W_seq (W_seq (?_))
  refine u_1 ?_
  refine W_cond rfl (fun h => W_seq ?_) (fun hlen => W_skip ?_)
  · refine u_1 ?_
    have : decide (a = b) = false := by rw [decide_eq_false_iff_not]; intro e; subst e; simp at h
    refine W_ret ?_
    simp [Fin, this]
    all_goals omega
  refine W_seq (W_seq (?_))
  simp at hlen
  refine u_1 ?_
  refine W_block (W_loop (fun n st => ∃ i : Nat, n = a.length - i ∧ i ≤ a.length ∧ a.take i = b.take i ∧ st = ⟨[], [(0, .d (.slc 2 (rUser a))), (1, .d (.slc 2 (rUser b))), (5, .d (.int .i64 i))], [], 0⟩) _ ⟨0, rfl, by omega, rfl, rfl⟩ ?_)
  rintro n st ⟨i, rfl, hi, he, rfl⟩
  refine W_seq (W_seq (?_))
  refine u_1 ?_
  refine W_cond rfl (fun h => W_skip ?_) (fun h => W_exit ?_)
  · simp at h
    have ha := List.getElem?_eq_getElem h
    have hb := List.getElem?_eq_getElem (show i < b.length by omega)
    generalize a[i] = x at ha
    generalize b[i]'_ = y at hb
    have ga := sumBy_get (f := GUser.cost) ha
    have gb := sumBy_get (f := GUser.cost) hb
    refine W_seq (W_block (W_seq ?_))
    refine u_19 ha hb (eqUser_g x y (by omega) (by omega)) ?_
    refine W_cond rfl (fun h2 => W_seq ?_) (fun h2 => W_skip ?_)
    · refine u_1 ?_
      have : decide (a = b) = false := by rw [decide_eq_false_iff_not]; intro e; subst e; rw [ha] at hb; cases hb; simp at h2
      refine W_ret ?_
      simp [Fin, this]
      all_goals omega
    refine u_1 ?_
    have hxy : x = y := by simpa using h2
    subst hxy
    exact ⟨a.length - (i + 1), by omega, i + 1, rfl, h, take_succ_eq he ha hb, by simp [gc, closeN, liveA, gcV, gcO, renA, namesAs, namesA]; rw [wrap_id (by omega) (by omega)]⟩
  · simp at h
    rw [if_pos rfl]
    refine W_seq (?_)
    refine u_1 ?_
    have : decide (a = b) = true := by
      rw [decide_eq_true_iff]
      rwa [List.take_of_length_le h, List.take_of_length_le (by omega)] at he
    refine W_ret ?_
    simp [Fin, this]
    all_goals omega

theorem szFar_g (x : GFar) (l : Int) (hx : x.ok) (h0 : 0 ≤ l ∧ l ≤ 1048576) : Valid PP GG F_L_szFar [.agg x.c, .d (.int .i64 l)] (.d (.int .i64 (leftR x.cost l))) [none, none] := by
  refine v_L_szFar [.d (.int .i64 (leftR x.cost l))] rfl rfl ?_
  have hco : x.cost = (x.fUsers.length + sumBy GUser.cost x.fUsers) := rfl
  unfold GFar.ok maxLen at hx
  obtain ⟨okUsers0, okUsers1, okFail0, okMade0⟩ := hx
  generalize x.cost = co at hco
  refine W_seq (?_)
  refine u_1 ?_
  have ct := szUserS_g (GG := GG) x.fUsers l (by unfold maxLen; omega) okUsers1 ⟨by omega, by omega⟩
  obtain ⟨l1, el1⟩ : ∃ z : Int, leftR (x.fUsers.length + sumBy GUser.cost x.fUsers) l = z := ⟨_, rfl⟩
  rw [el1] at ct
  refine W_seq (?_)
  refine u_8 ct ?_
  clear ct
  refine W_seq (W_seq (?_))
  refine u_1 ?_
  refine W_cond rfl (fun hh0 => W_seq ?_) (fun hh0 => W_skip ?_)
  · refine u_1 ?_
    simp at hh0
    rw [← el1] at hh0
    have hn := leftR_neg (by omega) hh0
    have : leftR co l = -1 := leftR_no (by omega)
    refine W_ret ?_
    simp [Fin, this]
    all_goals omega
  simp at hh0
  rw [← el1] at hh0
  obtain ⟨gl1, jl1⟩ := leftR_pos (Int.not_lt.2 hh0)
  rw [el1] at jl1 hh0
  refine W_seq (?_)
  refine u_1 ?_
  have : leftR co l = l1 := by rw [leftR_yes (by omega)]; omega
  refine W_ret ?_
  simp [Fin, this]
  all_goals omega

theorem toFar_g (x : GFar) (hx : x.cost ≤ 1099511627776) : Valid PP GG F_L_toFar [.agg x.c] (.agg x.o) [none] := by
  refine v_L_toFar [.agg x.o] rfl rfl ?_
  have hco : x.cost = (x.fUsers.length + sumBy GUser.cost x.fUsers) := rfl
  refine W_seq (?_)
  refine u_1 ?_
  refine W_seq (?_)
  refine u_1 ?_
  refine W_seq (?_)
  refine u_8 (toUserS_g x.fUsers (by omega)) ?_
  refine W_seq (?_)
  refine u_1 ?_
  refine W_seq (?_)
  refine u_1 ?_
  refine W_seq (?_)
  refine u_1 ?_
  refine W_ret ?_
  simp [Fin]
  all_goals omega

theorem eqFar_g (x y : GFar) (hx : x.cost ≤ 1099511627776) (hy : y.cost ≤ 1099511627776) : Valid PP GG F_L_eqFar [.agg x.c, .agg y.c] (.d (.bool (decide (x = y)))) [none, none] := by
  refine v_L_eqFar [.d (.bool (decide (x = y)))] rfl rfl ?_
  have hcx : x.cost = (x.fUsers.length + sumBy GUser.cost x.fUsers) := rfl
  have hcy : y.cost = (y.fUsers.length + sumBy GUser.cost y.fUsers) := rfl
  refine W_seq (?_)
  refine u_1 ?_
  refine W_seq (W_seq (?_))
  refine u_8 (eqUserS_g x.fUsers y.fUsers (by omega) (by omega)) ?_
  refine W_cond rfl (fun h => W_seq ?_) (fun h0 => W_skip ?_)
  · refine u_1 ?_
    have : decide (x = y) = false := by rw [decide_eq_false_iff_not]; intro e; rw [e] at h; simp at h
    refine W_ret ?_
    simp [Fin, this]
    all_goals omega
  refine W_seq (W_seq (?_))
  refine u_1 ?_
  refine W_cond rfl (fun h => W_seq ?_) (fun h1 => W_skip ?_)
  · refine u_1 ?_
    have : decide (x = y) = false := by rw [decide_eq_false_iff_not]; intro e; rw [e] at h; simp at h
    refine W_ret ?_
    simp [Fin, this]
    all_goals omega
  refine W_seq (W_seq (?_))
  refine u_1 ?_
  refine W_cond rfl (fun h => W_seq ?_) (fun h2 => W_skip ?_)
  · refine u_1 ?_
    have : decide (x = y) = false := by rw [decide_eq_false_iff_not]; intro e; rw [e] at h; simp at h
    refine W_ret ?_
    simp [Fin, this]
    all_goals omega
  refine W_seq (?_)
  refine u_1 ?_
  have : decide (x = y) = true := by
    rw [decide_eq_true_iff]
    cases x; cases y
    simp at h0 h1 h2
    simp_all
  refine W_ret ?_
  simp [Fin, this]
  all_goals omega

theorem szJob_g (x : GJob) (l : Int) (hx : x.ok) (h0 : 0 ≤ l ∧ l ≤ 1048576) : Valid PP GG F_L_szJob [.agg x.c, .d (.int .i64 l)] (.d (.int .i64 (leftR x.cost l))) [none, none] := by
  refine v_L_szJob [.d (.int .i64 (leftR x.cost l))] rfl rfl ?_
  have hco : x.cost = x.fName.length := rfl
  unfold GJob.ok maxLen at hx
  obtain ⟨okName0, okAt0, okTries0⟩ := hx
  generalize x.cost = co at hco
  refine W_seq (?_)
  refine u_1 ?_
  obtain ⟨l1, el1⟩ : ∃ z : Int, l - x.fName.length = z := ⟨_, rfl⟩
  have wl1 : IntKind.i64.wrap (l - x.fName.length) = l1 := by rw [wrap_id (by omega) (by omega)]; exact el1
  refine W_seq (?_)
  refine u_20 ?_
  refine W_seq (W_seq (?_))
  refine u_1 ?_
  refine W_cond rfl (fun hh0 => W_seq ?_) (fun hh0 => W_skip ?_)
  · refine u_1 ?_
    simp at hh0
    have : leftR co l = -1 := leftR_no (by omega)
    refine W_ret ?_
    simp [Fin, this]
    all_goals omega
  simp at hh0
  refine W_seq (?_)
  refine u_1 ?_
  have : leftR co l = l1 := by rw [leftR_yes (by omega)]; omega
  refine W_ret ?_
  simp [Fin, this]
  all_goals omega

theorem szJobS_g (a : List GJob) (l : Int) (hlen : a.length ≤ maxLen) (hx : ∀ x, x ∈ a → x.ok) (h0 : 0 ≤ l ∧ l ≤ 1048576) :
    Valid PP GG F_L_szJobS [.d (.slc 3 (rJob a)), .d (.int .i64 l)] (.d (.int .i64 (leftR (a.length + sumBy GJob.cost a) l))) [none, none] := by
  refine v_L_szJobS [.d (.int .i64 (leftR (a.length + sumBy GJob.cost a) l))] rfl rfl ?_
  unfold maxLen at hlen
  obtain ⟨m, hm⟩ : ∃ z : Int, l - a.length = z := ⟨_, rfl⟩
  have hw : IntKind.i64.wrap (l - a.length) = m := by rw [wrap_id (by omega) (by omega)]; exact hm
  refine W_seq (?_)
  refine u_1 ?_
  refine W_seq (?_)
  refine u_6 hw ?_
  refine W_seq (W_seq (?_))
  refine u_1 ?_
  refine W_cond rfl (fun h => W_seq ?_) (fun h => W_skip ?_)
  · refine u_1 ?_
    simp at h
    have : leftR (a.length + sumBy GJob.cost a) l = -1 := leftR_no (by omega)
    refine W_ret ?_
    simp [Fin, this]
    all_goals omega
  simp at h
  refine W_seq (W_seq (?_))
  refine u_1 ?_
  refine W_block (W_loop (fun n st => ∃ (i : Nat) (v : Int), n = a.length - i ∧ i ≤ a.length ∧ 0 ≤ v ∧ v = m - (sumBy GJob.cost (a.take i) : Nat) ∧
    st = ⟨[], [(0, .d (.slc 3 (rJob a))), (1, .d (.int .i64 v)), (5, .d (.int .i64 i))], [], 0⟩) _ ⟨0, m, rfl, by omega, h, by simp [sumBy], rfl⟩ ?_)
  rintro n st ⟨i, v, rfl, hi, hv, he, rfl⟩
  refine W_seq (W_seq (?_))
  refine u_1 ?_
  refine W_cond rfl (fun h2 => W_skip ?_) (fun h2 => W_exit ?_)
  · simp at h2
    have ha := List.getElem?_eq_getElem h2
    generalize a[i] = x at ha
    have hs := sumBy_succ (f := GJob.cost) ha
    have ht := sumBy_take GJob.cost a (i + 1)
    have ct := szJob_g (GG := GG) x v (hx x (List.mem_of_getElem? ha)) ⟨hv, by omega⟩
    obtain ⟨v2, hv2⟩ : ∃ z : Int, leftR x.cost v = z := ⟨_, rfl⟩
    rw [hv2] at ct
    refine W_seq (W_block (W_seq ?_))
    refine u_14 ha ct ?_
    refine W_seq (?_)
    refine u_1 ?_
    refine W_cond rfl (fun h3 => W_seq ?_) (fun h3 => W_skip ?_)
    · refine u_1 ?_
      simp at h3
      rw [← hv2] at h3
      have hn := leftR_neg (by omega) h3
      have : leftR (a.length + sumBy GJob.cost a) l = -1 := leftR_no (by omega)
      refine W_ret ?_
      simp [Fin, this]
      all_goals omega
    simp at h3
    rw [← hv2] at h3
    obtain ⟨g1, g2⟩ := leftR_pos (Int.not_lt.2 h3)
    rw [hv2] at g2
    refine u_1 ?_
    exact ⟨a.length - (i + 1), by omega, i + 1, v2, rfl, h2, by omega, by omega, by simp [gc, closeN, liveA, gcV, gcO, renA, namesAs, namesA]; rw [wrap_id (by omega) (by omega)]⟩
  · simp at h2
    rw [if_pos rfl]
    rw [List.take_of_length_le h2] at he
    refine W_seq (?_)
    refine u_1 ?_
    have : leftR (a.length + sumBy GJob.cost a) l = v := by rw [leftR_yes (by omega)]; omega
    refine W_ret ?_
    simp [Fin, this]
    all_goals omega

theorem toJob_g (x : GJob) (hx : x.cost ≤ 1099511627776) : Valid PP GG F_L_toJob [.agg x.c] (.agg x.o) [none] := by
  refine v_L_toJob [.agg x.o] rfl rfl ?_
  have hco : x.cost = x.fName.length := rfl
  refine W_seq (?_)
  refine u_1 ?_
  refine W_seq (?_)
  refine u_1 ?_
  refine W_seq (?_)
  refine u_1 ?_
  refine W_seq (?_)
  refine u_1 ?_
  refine W_seq (?_)
  refine u_1 ?_
  refine W_seq (?_)
  refine u_1 ?_
  refine W_ret ?_
  simp [Fin]
  all_goals omega

theorem toJobS_g (a : List GJob) (hx : a.length + sumBy GJob.cost a ≤ 1099511627776) : Valid PP GG F_L_toJobS [.d (.slc 3 (rJob a))] (.own 0 3 (rJob a)) [none] := by
  refine v_L_toJobS [.own 0 3 (rJob a)] rfl rfl ?_
  refine W_seq (?_)
  refine u_1 ?_
  refine W_seq (?_)
  refine u_3 ?_
  refine W_seq (W_seq (?_))
  refine u_1 ?_
  refine W_block (W_loop (fun n st => ∃ (i : Nat) (R : List (List D)), n = a.length - i ∧ i ≤ a.length ∧ R.length = a.length ∧ (∀ r, r ∈ R → r.length = 3) ∧ R.take i = rJob (a.take i) ∧
    st = ⟨[], [(0, .d (.slc 3 (rJob a))), (3, .sl 0), (4, .d (.int .i64 i))], [(0, .arr 0 0 3 R)], 1⟩) _ ⟨0, List.replicate a.length [.str [], .int .i64 0, .int .i64 0], rfl, by omega, by simp, by intro r hr; rw [List.eq_of_mem_replicate hr]; rfl, rfl, rfl⟩ ?_)
  rintro n st ⟨i, R, rfl, hi, hl, h1, hR, rfl⟩
  refine W_seq (W_seq (?_))
  refine u_1 ?_
  refine W_cond rfl (fun h => W_skip ?_) (fun h => W_exit ?_)
  · simp at h
    have ha := List.getElem?_eq_getElem h
    generalize a[i] = x at ha
    have hg := sumBy_get (f := GJob.cost) ha
    obtain ⟨y0, y1, y2, hd⟩ := rows3 h1 (show i < R.length by omega)
    refine W_seq (W_block ?_)
    refine u_18 ha hd hl (toJob_g x (by omega)) ?_
    refine u_1 ?_
    exact ⟨a.length - (i + 1), by omega, i + 1, R.set i x.row, rfl, h, by simpa using hl, set3 h1 rfl, by rw [take_set_succ (by omega), hR, List.take_add_one, ha, rJob_app]; rfl,
      by simp [gc, closeN, liveA, gcV, gcO, renA, renO, namesAs, namesA, namesO, posn]; rw [wrap_id (by omega) (by omega)]⟩
  · simp at h
    have e : R = rJob a := by rwa [List.take_of_length_le (by omega), List.take_of_length_le (by omega)] at hR
    subst e
    rw [if_pos rfl]
    refine W_seq (?_)
    refine u_1 ?_
    refine W_ret ?_
    simp [Fin]
    all_goals omega

theorem eqJob_g (x y : GJob) (hx : x.cost ≤ 1099511627776) (hy : y.cost ≤ 1099511627776) : Valid PP GG F_L_eqJob [.agg x.c, .agg y.c] (.d (.bool (decide (x = y)))) [none, none] := by
  refine v_L_eqJob [.d (.bool (decide (x = y)))] rfl rfl ?_
  have hcx : x.cost = x.fName.length := rfl
  have hcy : y.cost = y.fName.length := rfl
  refine W_seq (?_)
  refine u_1 ?_
  refine W_seq (W_seq (?_))
  refine u_1 ?_
  refine W_cond rfl (fun h => W_seq ?_) (fun h0 => W_skip ?_)
  · refine u_1 ?_
    have : decide (x = y) = false := by rw [decide_eq_false_iff_not]; intro e; rw [e] at h; simp at h
    refine W_ret ?_
    simp [Fin, this]
    all_goals omega
  refine W_seq (W_seq (?_))
  refine u_1 ?_
  refine W_cond rfl (fun h => W_seq ?_) (fun h1 => W_skip ?_)
  · refine u_1 ?_
    have : decide (x = y) = false := by rw [decide_eq_false_iff_not]; intro e; rw [e] at h; simp at h
    refine W_ret ?_
    simp [Fin, this]
    all_goals omega
  refine W_seq (W_seq (?_))
  refine u_1 ?_
  refine W_cond rfl (fun h => W_seq ?_) (fun h2 => W_skip ?_)
  · refine u_1 ?_
    have : decide (x = y) = false := by rw [decide_eq_false_iff_not]; intro e; rw [e] at h; simp at h
    refine W_ret ?_
    simp [Fin, this]
    all_goals omega
  refine W_seq (?_)
  refine u_1 ?_
  have : decide (x = y) = true := by
    rw [decide_eq_true_iff]
    cases x; cases y
    simp at h0 h1 h2
    simp_all
  refine W_ret ?_
  simp [Fin, this]
  all_goals omega

theorem eqJobS_g (a b : List GJob) (hx : a.length + sumBy GJob.cost a ≤ 1099511627776) (hy : b.length + sumBy GJob.cost b ≤ 1099511627776) : Valid PP GG F_L_eqJobS [.d (.slc 3 (rJob a)), .d (.slc 3 (rJob b))] (.d (.bool (decide (a = b)))) [none, none] := by
  refine v_L_eqJobS [.d (.bool (decide (a = b)))] rfl rfl ?_
  refine W_seq (?_)
  refine u_1 ?_
  refine W_seq (W_seq (?_))
  refine u_1 ?_
  refine W_cond rfl (fun h => W_seq ?_) (fun hlen => W_skip ?_)
  · refine u_1 ?_
    have : decide (a = b) = false := by rw [decide_eq_false_iff_not]; intro e; subst e; simp at h
    refine W_ret ?_
    simp [Fin, this]
    all_goals omega
  refine W_seq (W_seq (?_))
  simp at hlen
  refine u_1 ?_
  refine W_block (W_loop (fun n st => ∃ i : Nat, n = a.length - i ∧ i ≤ a.length ∧ a.take i = b.take i ∧ st = ⟨[], [(0, .d (.slc 3 (rJob a))), (1, .d (.slc 3 (rJob b))), (5, .d (.int .i64 i))], [], 0⟩) _ ⟨0, rfl, by omega, rfl, rfl⟩ ?_)
  rintro n st ⟨i, rfl, hi, he, rfl⟩
  refine W_seq (W_seq (?_))
  refine u_1 ?_
  refine W_cond rfl (fun h => W_skip ?_) (fun h => W_exit ?_)
  · simp at h
    have ha := List.getElem?_eq_getElem h
    have hb := List.getElem?_eq_getElem (show i < b.length by omega)
    generalize a[i] = x at ha
    generalize b[i]'_ = y at hb
    have ga := sumBy_get (f := GJob.cost) ha
    have gb := sumBy_get (f := GJob.cost) hb
    refine W_seq (W_block (W_seq ?_))
    refine u_19 ha hb (eqJob_g x y (by omega) (by omega)) ?_
    refine W_cond rfl (fun h2 => W_seq ?_) (fun h2 => W_skip ?_)
    · refine u_1 ?_
      have : decide (a = b) = false := by rw [decide_eq_false_iff_not]; intro e; subst e; rw [ha] at hb; cases hb; simp at h2
      refine W_ret ?_
      simp [Fin, this]
      all_goals omega
    refine u_1 ?_
    have hxy : x = y := by simpa using h2
    subst hxy
    exact ⟨a.length - (i + 1), by omega, i + 1, rfl, h, take_succ_eq he ha hb, by simp [gc, closeN, liveA, gcV, gcO, renA, namesAs, namesA]; rw [wrap_id (by omega) (by omega)]⟩
  · simp at h
    rw [if_pos rfl]
    refine W_seq (?_)
    refine u_1 ?_
    have : decide (a = b) = true := by
      rw [decide_eq_true_iff]
      rwa [List.take_of_length_le h, List.take_of_length_le (by omega)] at he
    refine W_ret ?_
    simp [Fin, this]
    all_goals omega

theorem szQueue_g (x : GQueue) (l : Int) (hx : x.ok) (h0 : 0 ≤ l ∧ l ≤ 1048576) : Valid PP GG F_L_szQueue [.agg x.c, .d (.int .i64 l)] (.d (.int .i64 (leftR x.cost l))) [none, none] := by
  refine v_L_szQueue [.d (.int .i64 (leftR x.cost l))] rfl rfl ?_
  have hco : x.cost = (x.fJobs.length + sumBy GJob.cost x.fJobs) := rfl
  unfold GQueue.ok maxLen at hx
  obtain ⟨okJobs0, okJobs1⟩ := hx
  generalize x.cost = co at hco
  refine W_seq (?_)
  refine u_1 ?_
  have ct := szJobS_g (GG := GG) x.fJobs l (by unfold maxLen; omega) okJobs1 ⟨by omega, by omega⟩
  obtain ⟨l1, el1⟩ : ∃ z : Int, leftR (x.fJobs.length + sumBy GJob.cost x.fJobs) l = z := ⟨_, rfl⟩
  rw [el1] at ct
  refine W_seq (?_)
  refine u_8 ct ?_
  clear ct
  refine W_seq (W_seq (?_))
  refine u_1 ?_
  refine W_cond rfl (fun hh0 => W_seq ?_) (fun hh0 => W_skip ?_)
  · refine u_1 ?_
    simp at hh0
    rw [← el1] at hh0
    have hn := leftR_neg (by omega) hh0
    have : leftR co l = -1 := leftR_no (by omega)
    refine W_ret ?_
    simp [Fin, this]
    all_goals omega
  simp at hh0
  rw [← el1] at hh0
  obtain ⟨gl1, jl1⟩ := leftR_pos (Int.not_lt.2 hh0)
  rw [el1] at jl1 hh0
  refine W_seq (?_)
  refine u_1 ?_
  have : leftR co l = l1 := by rw [leftR_yes (by omega)]; omega
  refine W_ret ?_
  simp [Fin, this]
  all_goals omega

theorem toQueue_g (x : GQueue) (hx : x.cost ≤ 1099511627776) : Valid PP GG F_L_toQueue [.agg x.c] (.agg x.o) [none] := by
  refine v_L_toQueue [.agg x.o] rfl rfl ?_
  have hco : x.cost = (x.fJobs.length + sumBy GJob.cost x.fJobs) := rfl
  refine W_seq (?_)
  refine u_1 ?_
  refine W_seq (?_)
  refine u_1 ?_
  refine W_seq (?_)
  refine u_8 (toJobS_g x.fJobs (by omega)) ?_
  refine W_seq (?_)
  refine u_1 ?_
  refine W_ret ?_
  simp [Fin]
  all_goals omega

theorem eqQueue_g (x y : GQueue) (hx : x.cost ≤ 1099511627776) (hy : y.cost ≤ 1099511627776) : Valid PP GG F_L_eqQueue [.agg x.c, .agg y.c] (.d (.bool (decide (x = y)))) [none, none] := by
  refine v_L_eqQueue [.d (.bool (decide (x = y)))] rfl rfl ?_
  have hcx : x.cost = (x.fJobs.length + sumBy GJob.cost x.fJobs) := rfl
  have hcy : y.cost = (y.fJobs.length + sumBy GJob.cost y.fJobs) := rfl
  refine W_seq (?_)
  refine u_1 ?_
  refine W_seq (W_seq (?_))
  refine u_8 (eqJobS_g x.fJobs y.fJobs (by omega) (by omega)) ?_
  refine W_cond rfl (fun h => W_seq ?_) (fun h0 => W_skip ?_)
  · refine u_1 ?_
    have : decide (x = y) = false := by rw [decide_eq_false_iff_not]; intro e; rw [e] at h; simp at h
    refine W_ret ?_
    simp [Fin, this]
    all_goals omega
  refine W_seq (?_)
  refine u_1 ?_
  have : decide (x = y) = true := by
    rw [decide_eq_true_iff]
    cases x; cases y
    simp at h0
    simp_all
  refine W_ret ?_
  simp [Fin, this]
  all_goals omega

theorem szOwned_g (x : GOwned) (l : Int) (hx : x.ok) (h0 : 0 ≤ l ∧ l ≤ 1048576) : Valid PP GG F_L_szOwned [.agg x.c, .d (.int .i64 l)] (.d (.int .i64 (leftR x.cost l))) [none, none] := by
  refine v_L_szOwned [.d (.int .i64 (leftR x.cost l))] rfl rfl ?_
  have hco : x.cost = x.fName.length := rfl
  unfold GOwned.ok maxLen at hx
  obtain ⟨okLease0, okName0⟩ := hx
  generalize x.cost = co at hco
  refine W_seq (?_)
  refine u_1 ?_
  obtain ⟨l1, el1⟩ : ∃ z : Int, l - x.fName.length = z := ⟨_, rfl⟩
  have wl1 : IntKind.i64.wrap (l - x.fName.length) = l1 := by rw [wrap_id (by omega) (by omega)]; exact el1
  refine W_seq (?_)
  refine u_20 ?_
  refine W_seq (W_seq (?_))
  refine u_1 ?_
  refine W_cond rfl (fun hh0 => W_seq ?_) (fun hh0 => W_skip ?_)
  · refine u_1 ?_
    simp at hh0
    have : leftR co l = -1 := leftR_no (by omega)
    refine W_ret ?_
    simp [Fin, this]
    all_goals omega
  simp at hh0
  refine W_seq (?_)
  refine u_1 ?_
  have : leftR co l = l1 := by rw [leftR_yes (by omega)]; omega
  refine W_ret ?_
  simp [Fin, this]
  all_goals omega

theorem szOwnedS_g (a : List GOwned) (l : Int) (hlen : a.length ≤ maxLen) (hx : ∀ x, x ∈ a → x.ok) (h0 : 0 ≤ l ∧ l ≤ 1048576) :
    Valid PP GG F_L_szOwnedS [.d (.slc 2 (rOwned a)), .d (.int .i64 l)] (.d (.int .i64 (leftR (a.length + sumBy GOwned.cost a) l))) [none, none] := by
  refine v_L_szOwnedS [.d (.int .i64 (leftR (a.length + sumBy GOwned.cost a) l))] rfl rfl ?_
  unfold maxLen at hlen
  obtain ⟨m, hm⟩ : ∃ z : Int, l - a.length = z := ⟨_, rfl⟩
  have hw : IntKind.i64.wrap (l - a.length) = m := by rw [wrap_id (by omega) (by omega)]; exact hm
  refine W_seq (?_)
  refine u_1 ?_
  refine W_seq (?_)
  refine u_6 hw ?_
  refine W_seq (W_seq (?_))
  refine u_1 ?_
  refine W_cond rfl (fun h => W_seq ?_) (fun h => W_skip ?_)
  · refine u_1 ?_
    simp at h
    have : leftR (a.length + sumBy GOwned.cost a) l = -1 := leftR_no (by omega)
    refine W_ret ?_
    simp [Fin, this]
    all_goals omega
  simp at h
  refine W_seq (W_seq (?_))
  refine u_1 ?_
  refine W_block (W_loop (fun n st => ∃ (i : Nat) (v : Int), n = a.length - i ∧ i ≤ a.length ∧ 0 ≤ v ∧ v = m - (sumBy GOwned.cost (a.take i) : Nat) ∧
    st = ⟨[], [(0, .d (.slc 2 (rOwned a))), (1, .d (.int .i64 v)), (5, .d (.int .i64 i))], [], 0⟩) _ ⟨0, m, rfl, by omega, h, by simp [sumBy], rfl⟩ ?_)
  rintro n st ⟨i, v, rfl, hi, hv, he, rfl⟩
  refine W_seq (W_seq (?_))
  refine u_1 ?_
  refine W_cond rfl (fun h2 => W_skip ?_) (fun h2 => W_exit ?_)
  · simp at h2
    have ha := List.getElem?_eq_getElem h2
    generalize a[i] = x at ha
    have hs := sumBy_succ (f := GOwned.cost) ha
    have ht := sumBy_take GOwned.cost a (i + 1)
    have ct := szOwned_g (GG := GG) x v (hx x (List.mem_of_getElem? ha)) ⟨hv, by omega⟩
    obtain ⟨v2, hv2⟩ : ∃ z : Int, leftR x.cost v = z := ⟨_, rfl⟩
    rw [hv2] at ct
    refine W_seq (W_block (W_seq ?_))
    refine u_14 ha ct ?_
    refine W_seq (?_)
    refine u_1 ?_
    refine W_cond rfl (fun h3 => W_seq ?_) (fun h3 => W_skip ?_)
    · refine u_1 ?_
      simp at h3
      rw [← hv2] at h3
      have hn := leftR_neg (by omega) h3
      have : leftR (a.length + sumBy GOwned.cost a) l = -1 := leftR_no (by omega)
      refine W_ret ?_
      simp [Fin, this]
      all_goals omega
    simp at h3
    rw [← hv2] at h3
    obtain ⟨g1, g2⟩ := leftR_pos (Int.not_lt.2 h3)
    rw [hv2] at g2
    refine u_1 ?_
    exact ⟨a.length - (i + 1), by omega, i + 1, v2, rfl, h2, by omega, by omega, by simp [gc, closeN, liveA, gcV, gcO, renA, namesAs, namesA]; rw [wrap_id (by omega) (by omega)]⟩
  · simp at h2
    rw [if_pos rfl]
    rw [List.take_of_length_le h2] at he
    refine W_seq (?_)
    refine u_1 ?_
    have : leftR (a.length + sumBy GOwned.cost a) l = v := by rw [leftR_yes (by omega)]; omega
    refine W_ret ?_
    simp [Fin, this]
    all_goals omega

theorem toOwned_g (x : GOwned) (hx : x.cost ≤ 1099511627776) : Valid PP GG F_L_toOwned [.agg x.c] (.agg x.o) [none] := by
  refine v_L_toOwned [.agg x.o] rfl rfl ?_
  have hco : x.cost = x.fName.length := rfl
  refine W_seq (?_)
  refine u_1 ?_
  refine W_seq (?_)
  refine u_1 ?_
  refine W_seq (?_)
  refine u_1 ?_
  refine W_seq (?_)
  refine u_1 ?_
  refine W_seq (?_)
  refine u_1 ?_
  refine W_ret ?_
  simp [Fin]
  all_goals omega

theorem toOwnedS_g (a : List GOwned) (hx : a.length + sumBy GOwned.cost a ≤ 1099511627776) : Valid PP GG F_L_toOwnedS [.d (.slc 2 (rOwned a))] (.own 0 2 (rOwned a)) [none] := by
  refine v_L_toOwnedS [.own 0 2 (rOwned a)] rfl rfl ?_
  refine W_seq (?_)
  refine u_1 ?_
  refine W_seq (?_)
  refine u_3 ?_
  refine W_seq (W_seq (?_))
  refine u_1 ?_
  refine W_block (W_loop (fun n st => ∃ (i : Nat) (R : List (List D)), n = a.length - i ∧ i ≤ a.length ∧ R.length = a.length ∧ (∀ r, r ∈ R → r.length = 2) ∧ R.take i = rOwned (a.take i) ∧
    st = ⟨[], [(0, .d (.slc 2 (rOwned a))), (3, .sl 0), (4, .d (.int .i64 i))], [(0, .arr 0 0 2 R)], 1⟩) _ ⟨0, List.replicate a.length [.int .i64 0, .str []], rfl, by omega, by simp, by intro r hr; rw [List.eq_of_mem_replicate hr]; rfl, rfl, rfl⟩ ?_)
  rintro n st ⟨i, R, rfl, hi, hl, h1, hR, rfl⟩
  refine W_seq (W_seq (?_))
  refine u_1 ?_
  refine W_cond rfl (fun h => W_skip ?_) (fun h => W_exit ?_)
  · simp at h
    have ha := List.getElem?_eq_getElem h
    generalize a[i] = x at ha
    have hg := sumBy_get (f := GOwned.cost) ha
    obtain ⟨y0, y1, hd⟩ := rows2 h1 (show i < R.length by omega)
    refine W_seq (W_block ?_)
    refine u_18 ha hd hl (toOwned_g x (by omega)) ?_
    refine u_1 ?_
    exact ⟨a.length - (i + 1), by omega, i + 1, R.set i x.row, rfl, h, by simpa using hl, set2 h1 rfl, by rw [take_set_succ (by omega), hR, List.take_add_one, ha, rOwned_app]; rfl,
      by simp [gc, closeN, liveA, gcV, gcO, renA, renO, namesAs, namesA, namesO, posn]; rw [wrap_id (by omega) (by omega)]⟩
  · simp at h
    have e : R = rOwned a := by rwa [List.take_of_length_le (by omega), List.take_of_length_le (by omega)] at hR
    subst e
    rw [if_pos rfl]
    refine W_seq (?_)
    refine u_1 ?_
    refine W_ret ?_
    simp [Fin]
    all_goals omega

theorem eqOwned_g (x y : GOwned) (hx : x.cost ≤ 1099511627776) (hy : y.cost ≤ 1099511627776) : Valid PP GG F_L_eqOwned [.agg x.c, .agg y.c] (.d (.bool (decide (x = y)))) [none, none] := by
  refine v_L_eqOwned [.d (.bool (decide (x = y)))] rfl rfl ?_
  have hcx : x.cost = x.fName.length := rfl
  have hcy : y.cost = y.fName.length := rfl
  refine W_seq (?_)
  refine u_1 ?_
  refine W_seq (W_seq (?_))
  refine u_1 ?_
  refine W_cond rfl (fun h => W_seq ?_) (fun h0 => W_skip ?_)
  · refine u_1 ?_
    have : decide (x = y) = false := by rw [decide_eq_false_iff_not]; intro e; rw [e] at h; simp at h
    refine W_ret ?_
    simp [Fin, this]
    all_goals omega
  refine W_seq (W_seq (?_))
  refine u_1 ?_
  refine W_cond rfl (fun h => W_seq ?_) (fun h1 => W_skip ?_)
  · refine u_1 ?_
    have : decide (x = y) = false := by rw [decide_eq_false_iff_not]; intro e; rw [e] at h; simp at h
    refine W_ret ?_
    simp [Fin, this]
    all_goals omega
  refine W_seq (?_)
  refine u_1 ?_
  have : decide (x = y) = true := by
    rw [decide_eq_true_iff]
    cases x; cases y
    simp at h0 h1
    simp_all
  refine W_ret ?_
  simp [Fin, this]
  all_goals omega

theorem eqOwnedS_g (a b : List GOwned) (hx : a.length + sumBy GOwned.cost a ≤ 1099511627776) (hy : b.length + sumBy GOwned.cost b ≤ 1099511627776) : Valid PP GG F_L_eqOwnedS [.d (.slc 2 (rOwned a)), .d (.slc 2 (rOwned b))] (.d (.bool (decide (a = b)))) [none, none] := by
  refine v_L_eqOwnedS [.d (.bool (decide (a = b)))] rfl rfl ?_
  refine W_seq (?_)
  refine u_1 ?_
  refine W_seq (W_seq (?_))
  refine u_1 ?_
  refine W_cond rfl (fun h => W_seq ?_) (fun hlen => W_skip ?_)
  · refine u_1 ?_
    have : decide (a = b) = false := by rw [decide_eq_false_iff_not]; intro e; subst e; simp at h
    refine W_ret ?_
    simp [Fin, this]
    all_goals omega
  refine W_seq (W_seq (?_))
  simp at hlen
  refine u_1 ?_
  refine W_block (W_loop (fun n st => ∃ i : Nat, n = a.length - i ∧ i ≤ a.length ∧ a.take i = b.take i ∧ st = ⟨[], [(0, .d (.slc 2 (rOwned a))), (1, .d (.slc 2 (rOwned b))), (5, .d (.int .i64 i))], [], 0⟩) _ ⟨0, rfl, by omega, rfl, rfl⟩ ?_)
  rintro n st ⟨i, rfl, hi, he, rfl⟩
  refine W_seq (W_seq (?_))
  refine u_1 ?_
  refine W_cond rfl (fun h => W_skip ?_) (fun h => W_exit ?_)
  · simp at h
    have ha := List.getElem?_eq_getElem h
    have hb := List.getElem?_eq_getElem (show i < b.length by omega)
    generalize a[i] = x at ha
    generalize b[i]'_ = y at hb
    have ga := sumBy_get (f := GOwned.cost) ha
    have gb := sumBy_get (f := GOwned.cost) hb
    refine W_seq (W_block (W_seq ?_))
    refine u_19 ha hb (eqOwned_g x y (by omega) (by omega)) ?_
    refine W_cond rfl (fun h2 => W_seq ?_) (fun h2 => W_skip ?_)
    · refine u_1 ?_
      have : decide (a = b) = false := by rw [decide_eq_false_iff_not]; intro e; subst e; rw [ha] at hb; cases hb; simp at h2
      refine W_ret ?_
      simp [Fin, this]
      all_goals omega
    refine u_1 ?_
    have hxy : x = y := by simpa using h2
    subst hxy
    exact ⟨a.length - (i + 1), by omega, i + 1, rfl, h, take_succ_eq he ha hb, by simp [gc, closeN, liveA, gcV, gcO, renA, namesAs, namesA]; rw [wrap_id (by omega) (by omega)]⟩
  · simp at h
    rw [if_pos rfl]
    refine W_seq (?_)
    refine u_1 ?_
    have : decide (a = b) = true := by
      rw [decide_eq_true_iff]
      rwa [List.take_of_length_le h, List.take_of_length_le (by omega)] at he
    refine W_ret ?_
    simp [Fin, this]
    all_goals omega

theorem szWorld_g (x : GWorld) (l : Int) (hx : x.ok) (h0 : 0 ≤ l ∧ l ≤ 1048576) : Valid PP GG F_L_szWorld [.agg x.c, .d (.int .i64 l)] (.d (.int .i64 (leftR x.cost l))) [none, none] := by
  refine v_L_szWorld [.d (.int .i64 (leftR x.cost l))] rfl rfl ?_
  have hco : x.cost = x.fForest.cost + x.fBook.cost + x.fFar.cost + x.fQueue.cost + (x.fOwned.length + sumBy GOwned.cost x.fOwned) := rfl
  unfold GWorld.ok maxLen at hx
  obtain ⟨okNow0, okNext0, okLost0, okForest0, okBook0, okFar0, okQueue0, okOwned0, okOwned1⟩ := hx
  generalize x.cost = co at hco
  refine W_seq (?_)
  refine u_1 ?_
  have ct := szForest_g (GG := GG) x.fForest l okForest0 ⟨by omega, by omega⟩
  obtain ⟨l1, el1⟩ : ∃ z : Int, leftR x.fForest.cost l = z := ⟨_, rfl⟩
  rw [el1] at ct
  refine W_seq (?_)
  refine u_8 ct ?_
  clear ct
  refine W_seq (W_seq (?_))
  refine u_1 ?_
  refine W_cond rfl (fun hh0 => W_seq ?_) (fun hh0 => W_skip ?_)
  · refine u_1 ?_
    simp at hh0
    rw [← el1] at hh0
    have hn := leftR_neg (by omega) hh0
    have : leftR co l = -1 := leftR_no (by omega)
    refine W_ret ?_
    simp [Fin, this]
    all_goals omega
  simp at hh0
  rw [← el1] at hh0
  obtain ⟨gl1, jl1⟩ := leftR_pos (Int.not_lt.2 hh0)
  rw [el1] at jl1 hh0
  have ct := szBook_g (GG := GG) x.fBook l1 okBook0 ⟨by omega, by omega⟩
  obtain ⟨l2, el2⟩ : ∃ z : Int, leftR x.fBook.cost l1 = z := ⟨_, rfl⟩
  rw [el2] at ct
  refine W_seq (?_)
  refine u_8 ct ?_
  clear ct
  refine W_seq (W_seq (?_))
  refine u_1 ?_
  refine W_cond rfl (fun hh1 => W_seq ?_) (fun hh1 => W_skip ?_)
  · refine u_1 ?_
    simp at hh1
    rw [← el2] at hh1
    have hn := leftR_neg (by omega) hh1
    have : leftR co l = -1 := leftR_no (by omega)
    refine W_ret ?_
    simp [Fin, this]
    all_goals omega
  simp at hh1
  rw [← el2] at hh1
  obtain ⟨gl2, jl2⟩ := leftR_pos (Int.not_lt.2 hh1)
  rw [el2] at jl2 hh1
  have ct := szFar_g (GG := GG) x.fFar l2 okFar0 ⟨by omega, by omega⟩
  obtain ⟨l3, el3⟩ : ∃ z : Int, leftR x.fFar.cost l2 = z := ⟨_, rfl⟩
  rw [el3] at ct
  refine W_seq (?_)
  refine u_8 ct ?_
  clear ct
  refine W_seq (W_seq (?_))
  refine u_1 ?_
  refine W_cond rfl (fun hh2 => W_seq ?_) (fun hh2 => W_skip ?_)
  · refine u_1 ?_
    simp at hh2
    rw [← el3] at hh2
    have hn := leftR_neg (by omega) hh2
    have : leftR co l = -1 := leftR_no (by omega)
    refine W_ret ?_
    simp [Fin, this]
    all_goals omega
  simp at hh2
  rw [← el3] at hh2
  obtain ⟨gl3, jl3⟩ := leftR_pos (Int.not_lt.2 hh2)
  rw [el3] at jl3 hh2
  have ct := szQueue_g (GG := GG) x.fQueue l3 okQueue0 ⟨by omega, by omega⟩
  obtain ⟨l4, el4⟩ : ∃ z : Int, leftR x.fQueue.cost l3 = z := ⟨_, rfl⟩
  rw [el4] at ct
  refine W_seq (?_)
  refine u_8 ct ?_
  clear ct
  refine W_seq (W_seq (?_))
  refine u_1 ?_
  refine W_cond rfl (fun hh3 => W_seq ?_) (fun hh3 => W_skip ?_)
  · refine u_1 ?_
    simp at hh3
    rw [← el4] at hh3
    have hn := leftR_neg (by omega) hh3
    have : leftR co l = -1 := leftR_no (by omega)
    refine W_ret ?_
    simp [Fin, this]
    all_goals omega
  simp at hh3
  rw [← el4] at hh3
  obtain ⟨gl4, jl4⟩ := leftR_pos (Int.not_lt.2 hh3)
  rw [el4] at jl4 hh3
  have ct := szOwnedS_g (GG := GG) x.fOwned l4 (by unfold maxLen; omega) okOwned1 ⟨by omega, by omega⟩
  obtain ⟨l5, el5⟩ : ∃ z : Int, leftR (x.fOwned.length + sumBy GOwned.cost x.fOwned) l4 = z := ⟨_, rfl⟩
  rw [el5] at ct
  refine W_seq (?_)
  refine u_8 ct ?_
  clear ct
  refine W_seq (W_seq (?_))
  refine u_1 ?_
  refine W_cond rfl (fun hh4 => W_seq ?_) (fun hh4 => W_skip ?_)
  · refine u_1 ?_
    simp at hh4
    rw [← el5] at hh4
    have hn := leftR_neg (by omega) hh4
    have : leftR co l = -1 := leftR_no (by omega)
    refine W_ret ?_
    simp [Fin, this]
    all_goals omega
  simp at hh4
  rw [← el5] at hh4
  obtain ⟨gl5, jl5⟩ := leftR_pos (Int.not_lt.2 hh4)
  rw [el5] at jl5 hh4
  refine W_seq (?_)
  refine u_1 ?_
  have : leftR co l = l5 := by rw [leftR_yes (by omega)]; omega
  refine W_ret ?_
  simp [Fin, this]
  all_goals omega

theorem toWorld_g (x : GWorld) (hx : x.cost ≤ 1099511627776) : Valid PP GG F_L_toWorld [.agg x.c] (.agg x.o) [none] := by
  refine v_L_toWorld [.agg x.o] rfl rfl ?_
  have hco : x.cost = x.fForest.cost + x.fBook.cost + x.fFar.cost + x.fQueue.cost + (x.fOwned.length + sumBy GOwned.cost x.fOwned) := rfl
  refine W_seq (?_)
  refine u_1 ?_
  refine W_seq (?_)
  refine u_1 ?_
  refine W_seq (?_)
  refine u_1 ?_
  refine W_seq (?_)
  refine u_1 ?_
  refine W_seq (?_)
  refine u_1 ?_
  refine W_seq (?_)
  refine u_8 (toForest_g x.fForest (by omega)) ?_
  refine W_seq (?_)
  refine u_8 (toBook_g x.fBook (by omega)) ?_
  refine W_seq (?_)
  refine u_8 (toFar_g x.fFar (by omega)) ?_
  refine W_seq (?_)
  refine u_8 (toQueue_g x.fQueue (by omega)) ?_
  refine W_seq (?_)
  refine u_8 (toOwnedS_g x.fOwned (by omega)) ?_
  refine W_seq (?_)
  refine u_1 ?_
  refine W_ret ?_
  simp [Fin]
  all_goals omega

theorem eqWorld_g (x y : GWorld) (hx : x.cost ≤ 1099511627776) (hy : y.cost ≤ 1099511627776) : Valid PP GG F_L_eqWorld [.agg x.c, .agg y.c] (.d (.bool (decide (x = y)))) [none, none] := by
  refine v_L_eqWorld [.d (.bool (decide (x = y)))] rfl rfl ?_
  have hcx : x.cost = x.fForest.cost + x.fBook.cost + x.fFar.cost + x.fQueue.cost + (x.fOwned.length + sumBy GOwned.cost x.fOwned) := rfl
  have hcy : y.cost = y.fForest.cost + y.fBook.cost + y.fFar.cost + y.fQueue.cost + (y.fOwned.length + sumBy GOwned.cost y.fOwned) := rfl
  refine W_seq (?_)
  refine u_1 ?_
  refine W_seq (W_seq (?_))
  refine u_1 ?_
  refine W_cond rfl (fun h => W_seq ?_) (fun h0 => W_skip ?_)
  · refine u_1 ?_
    have : decide (x = y) = false := by rw [decide_eq_false_iff_not]; intro e; rw [e] at h; simp at h
    refine W_ret ?_
    simp [Fin, this]
    all_goals omega
  refine W_seq (W_seq (?_))
  refine u_1 ?_
  refine W_cond rfl (fun h => W_seq ?_) (fun h1 => W_skip ?_)
  · refine u_1 ?_
    have : decide (x = y) = false := by rw [decide_eq_false_iff_not]; intro e; rw [e] at h; simp at h
    refine W_ret ?_
    simp [Fin, this]
    all_goals omega
  refine W_seq (W_seq (?_))
  refine u_1 ?_
  refine W_cond rfl (fun h => W_seq ?_) (fun h2 => W_skip ?_)
  · refine u_1 ?_
    have : decide (x = y) = false := by rw [decide_eq_false_iff_not]; intro e; rw [e] at h; simp at h
    refine W_ret ?_
    simp [Fin, this]
    all_goals omega
  refine W_seq (W_seq (?_))
  refine u_8 (eqForest_g x.fForest y.fForest (by omega) (by omega)) ?_
  refine W_cond rfl (fun h => W_seq ?_) (fun h3 => W_skip ?_)
  · refine u_1 ?_
    have : decide (x = y) = false := by rw [decide_eq_false_iff_not]; intro e; rw [e] at h; simp at h
    refine W_ret ?_
    simp [Fin, this]
    all_goals omega
  refine W_seq (W_seq (?_))
  refine u_8 (eqBook_g x.fBook y.fBook (by omega) (by omega)) ?_
  refine W_cond rfl (fun h => W_seq ?_) (fun h4 => W_skip ?_)
  · refine u_1 ?_
    have : decide (x = y) = false := by rw [decide_eq_false_iff_not]; intro e; rw [e] at h; simp at h
    refine W_ret ?_
    simp [Fin, this]
    all_goals omega
  refine W_seq (W_seq (?_))
  refine u_8 (eqFar_g x.fFar y.fFar (by omega) (by omega)) ?_
  refine W_cond rfl (fun h => W_seq ?_) (fun h5 => W_skip ?_)
  · refine u_1 ?_
    have : decide (x = y) = false := by rw [decide_eq_false_iff_not]; intro e; rw [e] at h; simp at h
    refine W_ret ?_
    simp [Fin, this]
    all_goals omega
  refine W_seq (W_seq (?_))
  refine u_8 (eqQueue_g x.fQueue y.fQueue (by omega) (by omega)) ?_
  refine W_cond rfl (fun h => W_seq ?_) (fun h6 => W_skip ?_)
  · refine u_1 ?_
    have : decide (x = y) = false := by rw [decide_eq_false_iff_not]; intro e; rw [e] at h; simp at h
    refine W_ret ?_
    simp [Fin, this]
    all_goals omega
  refine W_seq (W_seq (?_))
  refine u_8 (eqOwnedS_g x.fOwned y.fOwned (by omega) (by omega)) ?_
  refine W_cond rfl (fun h => W_seq ?_) (fun h7 => W_skip ?_)
  · refine u_1 ?_
    have : decide (x = y) = false := by rw [decide_eq_false_iff_not]; intro e; rw [e] at h; simp at h
    refine W_ret ?_
    simp [Fin, this]
    all_goals omega
  refine W_seq (?_)
  refine u_1 ?_
  have : decide (x = y) = true := by
    rw [decide_eq_true_iff]
    cases x; cases y
    simp at h0 h1 h2 h3 h4 h5 h6 h7
    simp_all
  refine W_ret ?_
  simp [Fin, this]
  all_goals omega

@[simp] theorem binA_strgeq (s t : List UInt8) : binA .str .geq (.d (.str s)) (.d (.str t)) = out (.d (.bool (!(Go.Op.bytesLess s t)))) := id rfl

@[simp] theorem binA_strlss (s t : List UInt8) : binA .str .lss (.d (.str s)) (.d (.str t)) = out (.d (.bool (Go.Op.bytesLess s t))) := id rfl

@[simp] theorem binA_strleq (s t : List UInt8) : binA .str .leq (.d (.str s)) (.d (.str t)) = out (.d (.bool (Go.Op.bytesLess s t || s == t))) := id rfl

@[simp] theorem binA_strgtr (s t : List UInt8) : binA .str .gtr (.d (.str s)) (.d (.str t)) = out (.d (.bool (!(Go.Op.bytesLess s t || s == t)))) := id rfl

def okP {α : Type} (q : List α → α → Bool) : List α → List α → Bool
  | _, [] => true
  | pre, x :: r => q pre x && okP q (pre ++ [x]) r

theorem okP_app {α : Type} (q : List α → α → Bool) (b : List α) : ∀ (a pre : List α), okP q pre (a ++ b) = (okP q pre a && okP q (pre ++ a) b) := by
  intro a
  induction a with
  | nil => intro pre; simp [okP]
  | cons x a ih => intro pre; simp [okP, ih, Bool.and_assoc]

theorem okP_step {α : Type} {q : List α → α → Bool} {l : List α} {i : Nat} {x : α} (h : l[i]? = some x) : okP q [] (l.take (i + 1)) = (okP q [] (l.take i) && q (l.take i) x) := by
  rw [List.take_add_one, h, okP_app]
  simp [okP]

theorem okP_bad {α : Type} {q : List α → α → Bool} {l : List α} {i : Nat} {x : α} (h : l[i]? = some x) (hq : q (l.take i) x = false) : okP q [] l = false := by
  have e : l = l.take i ++ (x :: l.drop (i + 1)) := by rw [← drop_get h, List.take_append_drop]
  rw [e, okP_app]
  simp only [okP, List.nil_append, hq, Bool.false_and, Bool.and_false]

def adjB {α : Type} (lt : α → α → Bool) (pre : List α) (x : α) : Bool := match pre.getLast? with | none => true | some p => lt p x

theorem adj_zero {α : Type} (lt : α → α → Bool) (l : List α) (x : α) : adjB lt (l.take 0) x = true := by simp [adjB]

theorem adj_succ {α : Type} (lt : α → α → Bool) {l : List α} {j : Nat} {p : α} (h : l[j]? = some p) (x : α) : adjB lt (l.take (j + 1)) x = lt p x := by
  unfold adjB
  rw [List.take_add_one, h]
  simp

theorem adj_pos {α : Type} (lt : α → α → Bool) {l : List α} {i : Nat} {p : α} (h0 : 0 < i) (h : l[i - 1]? = some p) (x : α) : adjB lt (l.take i) x = lt p x := by
  obtain ⟨j, rfl⟩ : ∃ j, i = j + 1 := ⟨i - 1, by omega⟩
  exact adj_succ lt h x

def nameQ (pre : List (List UInt8)) (x : List UInt8) : Bool := nameOk x && adjB (fun p x => Go.Op.bytesLess p x) pre x

def namesOk (l : List (List UInt8)) : Bool := decide (l.length ≤ 6) && okP nameQ [] l

theorem strs_get (l : List (List UInt8)) (i : Nat) : (strsD l)[i]? = (l[i]?).map fun s => [.str s] := by simp [strsD]

theorem areNames_ok (l : List (List UInt8)) (hl : l.length ≤ 1048576) (hs : ∀ s, s ∈ l → s.length ≤ 1048576) : Valid PP GG F_I_areNames [.d (.slc 1 (strsD l))] (.d (.bool (namesOk l))) [none] := by
  refine v_I_areNames [.d (.bool (namesOk l))] rfl rfl ?_
  have hind := ind_strs l
  have hsl : (strsD l).length = l.length := by simp [strsD]
  refine u_22 hsl ?_
  refine W_loop (fun n st => ∃ i : Nat, n = l.length - i ∧ i ≤ l.length ∧ okP nameQ [] (l.take i) = true ∧ st = ⟨[], [(0, .d (.slc 1 (strsD l))), (5, .d (.slc 1 (strsD l))), (6, .d (.int .i64 l.length)), (7, .d (.int .i64 i))], [], 0⟩) _ ⟨0, rfl, by omega, rfl, ?_⟩ ?_
  · simp [gc, closeN, liveA, gcV, gcO, renA, renAs, renO, namesAs, namesA, namesO, posn]
  rintro n st ⟨i, rfl, hi, hok, rfl⟩
  by_cases hlt : i < l.length
  · have ha := List.getElem?_eq_getElem hlt
    generalize l[i] = x at ha
    have cn := isName_ok (GG := GG) x (by have := hs x (List.mem_of_getElem? ha); omega)
    have hst := okP_step (q := nameQ) ha
    have hbad := fun h => okP_bad (q := nameQ) ha h
    rw [hok, Bool.true_and] at hst
    unfold nameQ at hst hbad
    cases hnx : nameOk x with
    | false =>
      rw [hnx] at cn hbad
      have hb : namesOk l = false := by unfold namesOk nameQ; rw [hbad rfl]; simp
      rw [hb]
      exact u_23 ha cn
    | true =>
      rw [hnx] at cn hst hbad
      simp only [Bool.true_and] at hst hbad
      by_cases h0 : i = 0
      · subst h0
        rw [adj_zero] at hst
        refine u_24 ha cn ?_
        refine ⟨l.length - (0 + 1), by omega, 1, rfl, by omega, hst, ?_⟩
        simp [gc, closeN, liveA, gcV, gcO, renA, renAs, renO, namesAs, namesA, namesO, posn]
        exact wrap_id (by omega) (by omega)
      · have hp := List.getElem?_eq_getElem (show i - 1 < l.length by omega)
        generalize l[i - 1]'_ = p at hp
        rw [adj_pos _ (by omega) hp] at hst hbad
        have hpi : 0 < i := by omega
        have hw1 : IntKind.i64.wrap ((i : Int) - 1) = ((i - 1 : Nat) : Int) := by rw [wrap_id (by omega) (by omega)]; omega
        cases hb : Go.Op.bytesLess p x with
        | true =>
          rw [hb] at hst
          refine u_25 ha hp hpi hw1 hb cn ?_
          refine ⟨l.length - (i + 1), by omega, i + 1, rfl, by omega, hst, ?_⟩
          simp [gc, closeN, liveA, gcV, gcO, renA, renAs, renO, namesAs, namesA, namesO, posn]
          exact wrap_id (by omega) (by omega)
        | false =>
          have hbf : namesOk l = false := by unfold namesOk nameQ; rw [hbad hb]; simp
          rw [hbf]
          exact u_26 ha hp hpi hw1 hb cn
  · have hie : i = l.length := by omega
    subst hie
    rw [List.take_length] at hok
    have : namesOk l = decide ((l.length : Int) ≤ 6) := by unfold namesOk; rw [hok, Bool.and_true]; exact decide_eq_decide.2 (by omega)
    rw [this]
    exact u_27 hsl

theorem s_l08Names_ok (l : List (List UInt8)) (hl : l.length ≤ 1048576) (hs : ∀ s, s ∈ l → s.length ≤ 1048576) : Valid PP GG F_S_l08Names [.d (.slc 1 (strsD l))] (.d (.bool (namesOk l))) [none] := by
  refine v_S_l08Names [.d (.bool (namesOk l))] rfl rfl ?_
  have hind := ind_strs l
  have hsl : (strsD l).length = l.length := by simp [strsD]
  by_cases h6 : l.length ≤ 6
  rotate_left
  · have hb : namesOk l = false := by unfold namesOk; rw [decide_eq_false h6, Bool.false_and]
    rw [hb]
    have hd : 6 < l.length := by omega
    exact u_28 hsl hd
  have hd : ¬ 6 < l.length := by omega
  refine u_29 hsl hd ?_
  refine W_loop (fun n st => ∃ i : Nat, n = l.length - i ∧ i ≤ l.length ∧ okP nameQ [] (l.take i) = true ∧ st = ⟨[], [(0, .d (.slc 1 (strsD l))), (3, .d (.int .i64 i))], [], 0⟩) _ ⟨0, rfl, by omega, rfl, ?_⟩ ?_
  · simp [gc, closeN, liveA, gcV, gcO, renA, renAs, renO, namesAs, namesA, namesO, posn]
  rintro n st ⟨i, rfl, hi, hok, rfl⟩
  by_cases hlt : i < l.length
  · have ha := List.getElem?_eq_getElem hlt
    generalize l[i] = x at ha
    have cn := l01Name_ok (GG := GG) x (by have := hs x (List.mem_of_getElem? ha); omega)
    have hst := okP_step (q := nameQ) ha
    have hbad := fun h => okP_bad (q := nameQ) ha h
    rw [hok, Bool.true_and] at hst
    unfold nameQ at hst hbad
    cases hnx : nameOk x with
    | false =>
      rw [hnx] at cn hbad
      have hb : namesOk l = false := by unfold namesOk nameQ; rw [hbad rfl]; simp
      rw [hb]
      exact u_30 ha hsl cn
    | true =>
      rw [hnx] at cn hst hbad
      simp only [Bool.true_and] at hst hbad
      by_cases h0 : i = 0
      · subst h0
        rw [adj_zero] at hst
        refine u_31 ha hsl cn ?_
        refine ⟨l.length - (0 + 1), by omega, 1, rfl, by omega, hst, ?_⟩
        simp [gc, closeN, liveA, gcV, gcO, renA, renAs, renO, namesAs, namesA, namesO, posn]
        exact wrap_id (by omega) (by omega)
      · have hp := List.getElem?_eq_getElem (show i - 1 < l.length by omega)
        generalize l[i - 1]'_ = p at hp
        rw [adj_pos _ (by omega) hp] at hst hbad
        have hpi : 0 < i := by omega
        have hw1 : IntKind.i64.wrap ((i : Int) - 1) = ((i - 1 : Nat) : Int) := by rw [wrap_id (by omega) (by omega)]; omega
        cases hb : Go.Op.bytesLess p x with
        | true =>
          rw [hb] at hst
          refine u_32 ha hp hsl hpi hw1 hb cn ?_
          refine ⟨l.length - (i + 1), by omega, i + 1, rfl, by omega, hst, ?_⟩
          simp [gc, closeN, liveA, gcV, gcO, renA, renAs, renO, namesAs, namesA, namesO, posn]
          exact wrap_id (by omega) (by omega)
        | false =>
          have hbf : namesOk l = false := by unfold namesOk nameQ; rw [hbad hb]; simp
          rw [hbf]
          exact u_33 ha hp hsl hpi hw1 hb cn
  · have hie : i = l.length := by omega
    subst hie
    rw [List.take_length] at hok
    have : namesOk l = true := by unfold namesOk; rw [hok, decide_eq_true h6]; rfl
    rw [this]
    exact u_27 hsl

def tokenB (t : GToken) : Bool := inB t.fId 1 1000000000 && inB t.fParent 0 (t.fId - 1) && namesOk t.fNames && inB t.fMade 0 1000000000 &&
  (decide (t.fEnds = 0) || inB t.fEnds (t.fMade + 1) 1000000000) &&
  (decide (t.fLimit = 0) || (inB t.fLimit (t.fMade + 1) 1000000000 && !decide (t.fEnds = 0) && decide (t.fEnds ≤ t.fLimit))) && inB t.fUses 0 1000

def fitT (t : GToken) : Prop := t.fNames.length ≤ 1048576 ∧ ∀ s, s ∈ t.fNames → s.length ≤ 1048576

theorem tokenB_wrap (t : GToken) : tokenB t = (inB t.fId 1 1000000000 && inB t.fParent 0 (IntKind.i64.wrap (t.fId - 1)) && namesOk t.fNames && inB t.fMade 0 1000000000 &&
  (decide (t.fEnds = 0) || inB t.fEnds (IntKind.i64.wrap (t.fMade + 1)) 1000000000) &&
  (decide (t.fLimit = 0) || (inB t.fLimit (IntKind.i64.wrap (t.fMade + 1)) 1000000000 && !decide (t.fEnds = 0) && decide (t.fEnds ≤ t.fLimit))) && inB t.fUses 0 1000) := by
  unfold tokenB
  cases h1 : inB t.fId 1 1000000000 with
  | false => simp
  | true =>
    cases h2 : inB t.fMade 0 1000000000 with
    | false => simp
    | true =>
      unfold inB at h1 h2
      simp only [Bool.and_eq_true, decide_eq_true_eq] at h1 h2
      rw [wrap_id (show _ ≤ t.fId - 1 by omega) (by omega), wrap_id (show _ ≤ t.fMade + 1 by omega) (by omega)]

theorem isToken_ok [MaxL GG] (x : GToken) (hx : fitT x) : Valid PP GG F_I_isToken [.agg x.c] (.d (.bool (tokenB x))) [none] := by
  refine v_I_isToken [.d (.bool (tokenB x))] rfl rfl ?_
  have hr := tokenB_wrap x
  obtain ⟨x1, x2, x3, x4, x5, x6, x7⟩ := x
  dsimp only at hr
  have c1 : Valid PP GG F_I_within [.d (.int .i64 x1), .d (.int .i64 1), .d (.int .i64 1000000000)] (.d (.bool (inB x1 1 1000000000))) [none, none, none] := within_ok _ _ _
  have c2 : Valid PP GG F_I_within [.d (.int .i64 x2), .d (.int .i64 0), .d (.int .i64 (IntKind.i64.wrap (x1 - 1)))] (.d (.bool (inB x2 0 (IntKind.i64.wrap (x1 - 1))))) [none, none, none] := within_ok _ _ _
  have c3 := areNames_ok (GG := GG) x3 hx.1 hx.2
  have c4 : Valid PP GG F_I_within [.d (.int .i64 x4), .d (.int .i64 0), .d (.int .i64 1000000000)] (.d (.bool (inB x4 0 1000000000))) [none, none, none] := within_ok _ _ _
  have c5 : Valid PP GG F_I_within [.d (.int .i64 x5), .d (.int .i64 (IntKind.i64.wrap (x4 + 1))), .d (.int .i64 1000000000)] (.d (.bool (inB x5 (IntKind.i64.wrap (x4 + 1)) 1000000000))) [none, none, none] := within_ok _ _ _
  have c6 : Valid PP GG F_I_within [.d (.int .i64 x6), .d (.int .i64 (IntKind.i64.wrap (x4 + 1))), .d (.int .i64 1000000000)] (.d (.bool (inB x6 (IntKind.i64.wrap (x4 + 1)) 1000000000))) [none, none, none] := within_ok _ _ _
  have c7 : Valid PP GG F_I_within [.d (.int .i64 x7), .d (.int .i64 0), .d (.int .i64 1000)] (.d (.bool (inB x7 0 1000))) [none, none, none] := within_ok _ _ _
  have hind := ind_strs x3
  have q5 : (x5 == 0) = decide (x5 = 0) := rfl
  have q6 : (x6 == 0) = decide (x6 = 0) := rfl
  have q7 : (x5 != 0) = !decide (x5 = 0) := rfl
  generalize inB x1 1 1000000000 = p1 at *
  generalize inB x2 0 (IntKind.i64.wrap (x1 - 1)) = p2 at *
  generalize namesOk x3 = p3 at *
  generalize inB x4 0 1000000000 = p4 at *
  generalize inB x5 (IntKind.i64.wrap (x4 + 1)) 1000000000 = p5 at *
  generalize inB x6 (IntKind.i64.wrap (x4 + 1)) 1000000000 = p6 at *
  generalize inB x7 0 1000 = p7 at *
  generalize decide (x5 = 0) = e0 at *
  generalize decide (x6 = 0) = l0 at *
  obtain ⟨le, hle⟩ : ∃ le, decide (x5 ≤ x6) = le := ⟨_, rfl⟩
  rw [hle] at hr
  refine W_seq (?_)
  refine u_1 ?_
  refine W_seq (?_)
  refine u_34 q5 q6 c5 3 (e0 || p5) ?_
  refine W_seq (?_)
  refine u_35 q5 q6 q7 hle c6 4 (l0 || (p6 && !e0 && le)) ?_
  refine W_seq (?_)
  refine u_36 c1 c2 c3 c4 c7 2 (p1 && p2 && p3 && p4 && (e0 || p5) && (l0 || (p6 && !e0 && le)) && p7) ?_
  refine W_ret ?_
  simp [Fin, hr]
  all_goals omega

theorem tokenB_s (t : GToken) : tokenB t = (inB t.fId 1 1000000000 && decide (0 ≤ t.fParent) && decide (t.fParent < t.fId) && namesOk t.fNames && inB t.fMade 0 1000000000 && inB t.fUses 0 1000 &&
  (decide (t.fEnds = 0) || inB t.fEnds (IntKind.i64.wrap (t.fMade + 1)) 1000000000) &&
  (decide (t.fLimit = 0) || (inB t.fLimit (IntKind.i64.wrap (t.fMade + 1)) 1000000000 && !decide (t.fEnds = 0) && decide (t.fEnds ≤ t.fLimit)))) := by
  rw [tokenB_wrap]
  cases h1 : inB t.fId 1 1000000000 with
  | false => simp
  | true =>
    have h2 : inB t.fParent 0 (IntKind.i64.wrap (t.fId - 1)) = (decide (0 ≤ t.fParent) && decide (t.fParent < t.fId)) := by
      unfold inB at h1 ⊢
      simp only [Bool.and_eq_true, decide_eq_true_eq] at h1
      rw [wrap_id (show _ ≤ t.fId - 1 by omega) (by omega)]
      congr 1
      exact decide_eq_decide.2 (by omega)
    rw [h2]
    generalize inB t.fUses 0 1000 = a
    generalize (decide (t.fEnds = 0) || inB t.fEnds (IntKind.i64.wrap (t.fMade + 1)) 1000000000) = b
    generalize (decide (t.fLimit = 0) || (inB t.fLimit (IntKind.i64.wrap (t.fMade + 1)) 1000000000 && !decide (t.fEnds = 0) && decide (t.fEnds ≤ t.fLimit))) = c
    cases a <;> cases b <;> cases c <;> simp

theorem s_l08Token_ok [MaxL GG] (x : GToken) (hx : fitT x) : Valid PP GG F_S_l08Token [.agg x.c] (.d (.bool (tokenB x))) [none] := by
  refine v_S_l08Token [.d (.bool (tokenB x))] rfl rfl ?_
  have hr := tokenB_s x
  obtain ⟨x1, x2, x3, x4, x5, x6, x7⟩ := x
  dsimp only at hr
  have c1 : Valid PP GG F_S_l01In [.d (.int .i64 x1), .d (.int .i64 1), .d (.int .i64 1000000000)] (.d (.bool (inB x1 1 1000000000))) [none, none, none] := l01In_ok _ _ _
  have c3 := s_l08Names_ok (GG := GG) x3 hx.1 hx.2
  have c4 : Valid PP GG F_S_l01In [.d (.int .i64 x4), .d (.int .i64 0), .d (.int .i64 1000000000)] (.d (.bool (inB x4 0 1000000000))) [none, none, none] := l01In_ok _ _ _
  have c5 : Valid PP GG F_S_l01In [.d (.int .i64 x5), .d (.int .i64 (IntKind.i64.wrap (x4 + 1))), .d (.int .i64 1000000000)] (.d (.bool (inB x5 (IntKind.i64.wrap (x4 + 1)) 1000000000))) [none, none, none] := l01In_ok _ _ _
  have c6 : Valid PP GG F_S_l01In [.d (.int .i64 x6), .d (.int .i64 (IntKind.i64.wrap (x4 + 1))), .d (.int .i64 1000000000)] (.d (.bool (inB x6 (IntKind.i64.wrap (x4 + 1)) 1000000000))) [none, none, none] := l01In_ok _ _ _
  have c7 : Valid PP GG F_S_l01In [.d (.int .i64 x7), .d (.int .i64 0), .d (.int .i64 1000)] (.d (.bool (inB x7 0 1000))) [none, none, none] := l01In_ok _ _ _
  have hind := ind_strs x3
  have q5 : (x5 == 0) = decide (x5 = 0) := rfl
  have q6 : (x6 == 0) = decide (x6 = 0) := rfl
  have q7 : (x5 != 0) = !decide (x5 = 0) := rfl
  generalize inB x1 1 1000000000 = p1 at *
  generalize namesOk x3 = p3 at *
  generalize inB x4 0 1000000000 = p4 at *
  generalize inB x5 (IntKind.i64.wrap (x4 + 1)) 1000000000 = p5 at *
  generalize inB x6 (IntKind.i64.wrap (x4 + 1)) 1000000000 = p6 at *
  generalize inB x7 0 1000 = p7 at *
  generalize decide (x5 = 0) = e0 at *
  generalize decide (x6 = 0) = l0 at *
  obtain ⟨le, hle⟩ : ∃ le, decide (x5 ≤ x6) = le := ⟨_, rfl⟩
  obtain ⟨a, ha⟩ : ∃ a, decide (0 ≤ x2) = a := ⟨_, rfl⟩
  obtain ⟨b, hb⟩ : ∃ b, decide (x2 < x1) = b := ⟨_, rfl⟩
  have ha2 : decide (x2 < 0) = !a := by rw [← ha, ← decide_not]; exact decide_eq_decide.2 (by omega)
  have hb2 : decide (x1 ≤ x2) = !b := by rw [← hb, ← decide_not]; exact decide_eq_decide.2 (by omega)
  rw [hle, ha, hb] at hr
  refine W_seq (?_)
  refine u_1 ?_
  refine W_seq (?_)
  refine W_seq (?_)
  refine u_37 ha2 hb2 c1 c3 c4 c7 36 (!p1 || !a || !b || !p3 || !p4 || !p7) ?_
  refine W_cond rfl (fun h => ?_) (fun h => W_skip ?_)
  · have hf : tokenB ⟨x1, x2, x3, x4, x5, x6, x7⟩ = false := by rw [hr]; revert h; cases p1 <;> cases a <;> cases b <;> cases p3 <;> cases p4 <;> cases p7 <;> simp
    rw [hf]
    exact u_38
  have hg : (p1 && a && b && p3 && p4 && p7) = true := by revert h; cases p1 <;> cases a <;> cases b <;> cases p3 <;> cases p4 <;> cases p7 <;> simp
  rw [hg, Bool.true_and] at hr
  refine W_seq (?_)
  refine W_seq (?_)
  refine u_39 q7 c5 48 (!e0 && !p5) ?_
  refine W_cond rfl (fun h => ?_) (fun h => W_skip ?_)
  · have hf : tokenB ⟨x1, x2, x3, x4, x5, x6, x7⟩ = false := by rw [hr]; revert h; cases e0 <;> cases p5 <;> simp
    rw [hf]
    exact u_38
  have hg : (e0 || p5) = true := by revert h; cases e0 <;> cases p5 <;> simp
  rw [hg, Bool.true_and] at hr
  rw [hr]
  cases l0 with
  | true =>
    exact u_27 q6
  | false =>
    refine W_seq (?_)
    refine W_seq (?_)
    refine u_6 q6 ?_
    refine W_cond rfl (fun h => ?_) (fun h => W_skip ?_)
    · exact absurd h (by simp)
    refine W_seq (?_)
    refine u_34 q7 hle c6 2 (p6 && !e0 && le) ?_
    refine W_ret ?_
    simp [Fin]
    all_goals omega

def idxF {α : Type} (p : α → Bool) (a : List α) : Int := match a.findIdx? p with | some i => i | none => -1

end Go.Proofs.YtdckkojgnkoabaaGreatDoor.Ab

