/-
  A part of a proof about the given program; what is proved is said where each theorem stands.
-/
import Derived.Test.YtoomonfpedjgoaaGreatDoorFrameA
import Derived.Test.YtoomonfpedjgoaaGreatDoorFrameB
import Derived.Test.YtoomonfpedjgoaaGreatDoorFrameC
import Derived.Test.YtoomonfpedjgoaaGreatDoorFrameD
import Derived.Test.YtoomonfpedjgoaaGreatDoorFrameE
import Derived.Test.YtoomonfpedjgoaaGreatDoorHead
import Derived.Test.YtoomonfpedjgoaaGreatDoorShelf
namespace Go.Proofs
end Go.Proofs
set_option linter.unusedSimpArgs false
set_option linter.unusedVariables false
set_option maxRecDepth 100000
set_option maxHeartbeats 2000000
namespace Go.Proofs.YtoomonfpedjgoaaGreatDoor.Ab
open Go.Proofs
variable {GG : GV}
structure Hid (q : Prop) : Type where
 o : q
theorem Y2 {p0 p1 : Prop} (x0 : p0) (x1 : p1) : p0 ∧ p1 := ⟨x0, x1⟩
theorem Y3 {p0 p1 p2 : Prop} (x0 : p0) (x1 : p1) (x2 : p2) : p0 ∧ p1 ∧ p2 := ⟨x0, x1, x2⟩
theorem Y4 {p0 p1 p2 p3 : Prop} (x0 : p0) (x1 : p1) (x2 : p2) (x3 : p3) : p0 ∧ p1 ∧ p2 ∧ p3 := ⟨x0, x1, x2, x3⟩
theorem Y5 {p0 p1 p2 p3 p4 : Prop} (x0 : p0) (x1 : p1) (x2 : p2) (x3 : p3) (x4 : p4) : p0 ∧ p1 ∧ p2 ∧ p3 ∧ p4 := ⟨x0, x1, x2, x3, x4⟩
theorem Y6 {p0 p1 p2 p3 p4 p5 : Prop} (x0 : p0) (x1 : p1) (x2 : p2) (x3 : p3) (x4 : p4) (x5 : p5) : p0 ∧ p1 ∧ p2 ∧ p3 ∧ p4 ∧ p5 := ⟨x0, x1, x2, x3, x4, x5⟩
theorem Y7 {p0 p1 p2 p3 p4 p5 p6 : Prop} (x0 : p0) (x1 : p1) (x2 : p2) (x3 : p3) (x4 : p4) (x5 : p5) (x6 : p6) : p0 ∧ p1 ∧ p2 ∧ p3 ∧ p4 ∧ p5 ∧ p6 := ⟨x0, x1, x2, x3, x4, x5, x6⟩
theorem Y8 {p0 p1 p2 p3 p4 p5 p6 p7 : Prop} (x0 : p0) (x1 : p1) (x2 : p2) (x3 : p3) (x4 : p4) (x5 : p5) (x6 : p6) (x7 : p7) : p0 ∧ p1 ∧ p2 ∧ p3 ∧ p4 ∧ p5 ∧ p6 ∧ p7 := ⟨x0, x1, x2, x3, x4, x5, x6, x7⟩
theorem Z1 {p0 : Prop} (x0 : p0) : p0 ∧ True := ⟨x0, trivial⟩
theorem Z2 {p0 p1 : Prop} (x0 : p0) (x1 : p1) : p0 ∧ p1 ∧ True := ⟨x0, x1, trivial⟩
theorem Z3 {p0 p1 p2 : Prop} (x0 : p0) (x1 : p1) (x2 : p2) : p0 ∧ p1 ∧ p2 ∧ True := ⟨x0, x1, x2, trivial⟩
theorem Z4 {p0 p1 p2 p3 : Prop} (x0 : p0) (x1 : p1) (x2 : p2) (x3 : p3) : p0 ∧ p1 ∧ p2 ∧ p3 ∧ True := ⟨x0, x1, x2, x3, trivial⟩
theorem Z5 {p0 p1 p2 p3 p4 : Prop} (x0 : p0) (x1 : p1) (x2 : p2) (x3 : p3) (x4 : p4) : p0 ∧ p1 ∧ p2 ∧ p3 ∧ p4 ∧ True := ⟨x0, x1, x2, x3, x4, trivial⟩
theorem Z6 {p0 p1 p2 p3 p4 p5 : Prop} (x0 : p0) (x1 : p1) (x2 : p2) (x3 : p3) (x4 : p4) (x5 : p5) : p0 ∧ p1 ∧ p2 ∧ p3 ∧ p4 ∧ p5 ∧ True := ⟨x0, x1, x2, x3, x4, x5, trivial⟩
theorem Z7 {p0 p1 p2 p3 p4 p5 p6 : Prop} (x0 : p0) (x1 : p1) (x2 : p2) (x3 : p3) (x4 : p4) (x5 : p5) (x6 : p6) : p0 ∧ p1 ∧ p2 ∧ p3 ∧ p4 ∧ p5 ∧ p6 ∧ True := ⟨x0, x1, x2, x3, x4, x5, x6, trivial⟩
theorem Z8 {p0 p1 p2 p3 p4 p5 p6 p7 : Prop} (x0 : p0) (x1 : p1) (x2 : p2) (x3 : p3) (x4 : p4) (x5 : p5) (x6 : p6) (x7 : p7) : p0 ∧ p1 ∧ p2 ∧ p3 ∧ p4 ∧ p5 ∧ p6 ∧ p7 ∧ True := ⟨x0, x1, x2, x3, x4, x5, x6, x7, trivial⟩
theorem bq {a b : Bool} (h : a = b := by first | omega | (exact decide_eq_false (by omega)) | (exact decide_eq_true (by omega)) | (exact (decide_eq_true (by omega)).symm) | (exact (decide_eq_false (by omega)).symm) | (exact decide_eq_decide.2 (by omega)) | (simp only [← decide_not]; exact decide_eq_decide.2 (by omega)) | (simp [*]; done) | (simp [*]; omega) | (simp_all; done) | (simp_all; omega) | (rw [Bool.eq_iff_iff]; simp at *; omega)) : a = b := h
abbrev RS (V : FuncId → List C → C → List (Option C) → Prop) (ops : List AOper) (st st' : St) : Prop := ∀ K : St → Prop, K st' → regS V st.nx 0 ops st K
abbrev RD (V : FuncId → List C → C → List (Option C) → Prop) (ops : List AOper) (st st' : St) : Prop := ∀ K : St → Prop, K st' → regD V st.nx 0 ops [] true st K
abbrev RB (V : FuncId → List C → C → List (Option C) → Prop) (ops : List AOper) (st : St) (r : Nat) (b : Bool) : Prop := ∀ K : St → Prop, (∀ t tm, t = b → K ⟨tm, put st.vars r (.d (.bool t)), st.objs, st.nx⟩) → regS V st.nx 0 ops st K
abbrev RE (V : FuncId → List C → C → List (Option C) → Prop) (ops : List AOper) (st : St) (r : Nat) (b : Bool) : Prop := ∀ K : St → Prop, (∀ t tm, t = b → K ⟨tm, put st.vars r (.d (.bool t)), st.objs, st.nx⟩) → regD V st.nx 0 ops [] true st K
section
variable {P : Program} {vl : List Nat} {nt : Nat × List Nat} {V : FuncId → List C → C → List (Option C) → Prop} {ops : List AOper} {st st' : St} {Kn : St → Prop} {Ke : Nat → St → Prop} {Kr : St → Prop} {a b' c' : ACode} {E L p q0 q1 q2 q3 q4 : Prop}
theorem u_1 (hn : W P vl nt V a ⟨[], st'.vars, st'.objs, st.nx + 64 * ops.length⟩ Kn Ke Kr) (h : RS V ops st st' := by intro K hK; simp; repeat' (first | with_reducible exact hK | (with_reducible refine goL_split (fun _ => ?_) (fun _ => ?_) <;> simp) | with_reducible refine And.intro ?_ ?_ | with_reducible exact okay_rfl rfl | with_reducible assumption | omega)) : W P vl nt V (.seq (.reg ops false) a) st Kn Ke Kr := W_seq (W_regS (h) hn)
theorem u_2 (r : Nat) (b : Bool) (hn : W P vl nt V a ⟨[], put st.vars r (.d (.bool b)), st.objs, st.nx + 64 * ops.length⟩ Kn Ke Kr) (h : RB V ops st r b := by intro K hK; simp; repeat' (first | exact hK _ _ (by clear hK; exact bq) | (with_reducible refine goL_split (fun _ => ?_) (fun _ => ?_) <;> simp) | with_reducible refine And.intro ?_ ?_ | with_reducible exact okay_rfl rfl | with_reducible assumption | omega)) : W P vl nt V (.seq (.reg ops false) a) st Kn Ke Kr := W_seq (W_regB r b (h) hn)
theorem u_3 (h : p := by refine W_ret ?_; simp [Fin]; all_goals omega) : p := h
theorem u_4 (hn : W P vl nt V a ⟨[], st'.vars, st'.objs, st.nx + 64 * ops.length⟩ (fun s => W P vl nt V b' s Kn Ke Kr) Ke Kr) (h : RS V ops st st' := by intro K hK; simp; repeat' (first | with_reducible exact hK | (with_reducible refine goL_split (fun _ => ?_) (fun _ => ?_) <;> simp) | with_reducible refine And.intro ?_ ?_ | with_reducible exact okay_rfl rfl | with_reducible assumption | omega)) : W P vl nt V (.seq (.seq (.reg ops false) a) b') st Kn Ke Kr := W_seq (W_seq (W_regS (h) hn))
theorem u_5 (hn : Kn ⟨[], st'.vars, st'.objs, st.nx + 64 * ops.length⟩) (h : RS V ops st st' := by intro K hK; simp; repeat' (first | with_reducible exact hK | (with_reducible refine goL_split (fun _ => ?_) (fun _ => ?_) <;> simp) | with_reducible refine And.intro ?_ ?_ | with_reducible exact okay_rfl rfl | with_reducible assumption | omega)) : W P vl nt V (.reg ops false) st Kn Ke Kr := W_regS (h) hn
theorem u_6 (h : p := by refine W_ret ?_; simp [Fin, this]; all_goals omega) : p := h
theorem u_7 (e : E) (hn : Kn ⟨[], st'.vars, st'.objs, st.nx + 64 * ops.length⟩) (h : Hid E → RS V ops st st' := by intro e K hK; simp [e.o]; repeat' (first | with_reducible exact hK | (with_reducible refine goL_split (fun _ => ?_) (fun _ => ?_) <;> simp [e.o]) | with_reducible refine And.intro ?_ ?_ | with_reducible exact okay_rfl rfl | with_reducible assumption | omega)) : W P vl nt V (.reg ops false) st Kn Ke Kr := W_regS (h ⟨e⟩) hn
theorem u_8 (e : E) (hn : W P vl nt V a ⟨[], st'.vars, st'.objs, st.nx + 64 * ops.length⟩ Kn Ke Kr) (h : Hid E → RS V ops st st' := by intro e K hK; simp [e.o, bytes_one, litA, maxStr, strOf_bytesD]; repeat' (first | with_reducible exact hK | (with_reducible refine goL_split (fun _ => ?_) (fun _ => ?_) <;> simp [e.o, bytes_one, litA, maxStr, strOf_bytesD]) | with_reducible refine And.intro ?_ ?_ | with_reducible exact okay_rfl rfl | with_reducible assumption | omega)) : W P vl nt V (.seq (.reg ops false) a) st Kn Ke Kr := W_seq (W_regS (h ⟨e⟩) hn)
theorem u_9 (e : E) (hn : Kn ⟨[], st'.vars, st'.objs, st.nx + 64 * ops.length⟩) (h : Hid E → RS V ops st st' := by intro e K hK; simp [e.o, sB]; repeat' (first | with_reducible exact hK | (with_reducible refine goL_split (fun _ => ?_) (fun _ => ?_) <;> simp [e.o, sB]) | with_reducible refine And.intro ?_ ?_ | with_reducible exact okay_rfl rfl | with_reducible assumption | omega)) : W P vl nt V (.reg ops false) st Kn Ke Kr := W_regS (h ⟨e⟩) hn
theorem u_10 (hn : W P vl nt V a ⟨[], st'.vars, st'.objs, st.nx + 64 * ops.length⟩ Kn Ke Kr) (h : RS V ops st st' := by intro K hK; simp [List.take_of_length_le h, digFin]; repeat' (first | with_reducible exact hK | (with_reducible refine goL_split (fun _ => ?_) (fun _ => ?_) <;> simp [List.take_of_length_le h, digFin]) | with_reducible refine And.intro ?_ ?_ | with_reducible exact okay_rfl rfl | with_reducible assumption | omega)) : W P vl nt V (.seq (.reg ops false) a) st Kn Ke Kr := W_seq (W_regS (h) hn)
theorem u_11 (k : L) (hn : W P vl nt V a ⟨[], st'.vars, st'.objs, st.nx + 64 * ops.length⟩ Kn Ke Kr) (h : Hid L → RS V ops st st' := by intro k K hK; simp; repeat' (first | with_reducible exact hK | ((with_reducible first | refine callQ k.o.1 ?_ | refine callQ k.o.2.1 ?_ | refine callQ k.o.2.2.1 ?_ | refine callQ k.o.2.2.2.1 ?_ | refine callQ k.o.2.2.2.2.1 ?_ | refine callQ k.o.2.2.2.2.2.1 ?_ | refine callQ k.o.2.2.2.2.2.2.1 ?_ | refine callQ k.o.2.2.2.2.2.2.2.1 ?_); simp) | (with_reducible refine goL_split (fun _ => ?_) (fun _ => ?_) <;> simp) | with_reducible refine And.intro ?_ ?_ | with_reducible exact okay_rfl rfl | with_reducible assumption | omega)) : W P vl nt V (.seq (.reg ops false) a) st Kn Ke Kr := W_seq (W_regS (h ⟨k⟩) hn)
theorem u_12 (k : L) (hn : W P vl nt V a ⟨[], st'.vars, st'.objs, st.nx + 64 * ops.length⟩ (fun s => W P vl nt V b' s Kn Ke Kr) Ke Kr) (h : Hid L → RS V ops st st' := by intro k K hK; simp; repeat' (first | with_reducible exact hK | ((with_reducible first | refine callQ k.o.1 ?_ | refine callQ k.o.2.1 ?_ | refine callQ k.o.2.2.1 ?_ | refine callQ k.o.2.2.2.1 ?_ | refine callQ k.o.2.2.2.2.1 ?_ | refine callQ k.o.2.2.2.2.2.1 ?_ | refine callQ k.o.2.2.2.2.2.2.1 ?_ | refine callQ k.o.2.2.2.2.2.2.2.1 ?_); simp) | (with_reducible refine goL_split (fun _ => ?_) (fun _ => ?_) <;> simp) | with_reducible refine And.intro ?_ ?_ | with_reducible exact okay_rfl rfl | with_reducible assumption | omega)) : W P vl nt V (.seq (.seq (.reg ops false) a) b') st Kn Ke Kr := W_seq (W_seq (W_regS (h ⟨k⟩) hn))
theorem u_13 (e : E) (h : Hid E → p := by intro e; refine W_ret ?_; simp [Fin, e.o]; all_goals omega) : p := h ⟨e⟩
theorem u_14 (hn : W P vl nt V a ⟨[], st'.vars, st'.objs, st.nx + 64 * ops.length⟩ Kn Ke Kr) (h : RS V ops st st' := by intro K hK; simp [litA]; repeat' (first | with_reducible exact hK | (with_reducible refine goL_split (fun _ => ?_) (fun _ => ?_) <;> simp [litA]) | with_reducible refine And.intro ?_ ?_ | with_reducible exact okay_rfl rfl | with_reducible assumption | omega)) : W P vl nt V (.seq (.reg ops false) a) st Kn Ke Kr := W_seq (W_regS (h) hn)
theorem u_15 (hn : Kn ⟨[], st'.vars, st'.objs, st.nx + 64 * ops.length⟩) (h : RS V ops st st' := by intro K hK; simp [limit, t1, t2]; repeat' (first | with_reducible exact hK | (with_reducible refine goL_split (fun _ => ?_) (fun _ => ?_) <;> simp [limit, t1, t2]) | with_reducible refine And.intro ?_ ?_ | with_reducible exact okay_rfl rfl | with_reducible assumption | omega)) : W P vl nt V (.reg ops false) st Kn Ke Kr := W_regS (h) hn
theorem u_16 (e : E) (r : Nat) (b : Bool) (hn : Kn ⟨[], put st.vars r (.d (.bool b)), st.objs, st.nx + 64 * ops.length⟩) (h : Hid E → RB V ops st r b := by intro e K hK; simp [e.o]; repeat' (first | exact hK _ _ (by clear hK; exact bq) | (with_reducible refine goL_split (fun _ => ?_) (fun _ => ?_) <;> simp [e.o]) | with_reducible refine And.intro ?_ ?_ | with_reducible exact okay_rfl rfl | with_reducible assumption | omega)) : W P vl nt V (.reg ops false) st Kn Ke Kr := W_regB r b (h ⟨e⟩) hn
theorem u_17 (k : L) (r : Nat) (b : Bool) (hn : W P vl nt V a ⟨[], put st.vars r (.d (.bool b)), st.objs, st.nx + 64 * ops.length⟩ Kn Ke Kr) (h : Hid L → RB V ops st r b := by intro k K hK; simp; repeat' (first | exact hK _ _ (by clear hK; exact bq) | ((with_reducible first | refine callQ k.o.1 ?_ | refine callQ k.o.2.1 ?_ | refine callQ k.o.2.2.1 ?_ | refine callQ k.o.2.2.2.1 ?_ | refine callQ k.o.2.2.2.2.1 ?_ | refine callQ k.o.2.2.2.2.2.1 ?_ | refine callQ k.o.2.2.2.2.2.2.1 ?_ | refine callQ k.o.2.2.2.2.2.2.2.1 ?_); simp) | (with_reducible refine goL_split (fun _ => ?_) (fun _ => ?_) <;> simp) | with_reducible refine And.intro ?_ ?_ | with_reducible exact okay_rfl rfl | with_reducible assumption | omega)) : W P vl nt V (.seq (.reg ops false) a) st Kn Ke Kr := W_seq (W_regB r b (h ⟨k⟩) hn)
theorem u_18 (e : E) (hn : Kn ⟨[], st'.vars, st'.objs, st.nx + 64 * ops.length⟩) (h : Hid E → RS V ops st st' := by intro e K hK; simp [e.o, limit]; repeat' (first | with_reducible exact hK | (with_reducible refine goL_split (fun _ => ?_) (fun _ => ?_) <;> simp [e.o, limit]) | with_reducible refine And.intro ?_ ?_ | with_reducible exact okay_rfl rfl | with_reducible assumption | omega)) : W P vl nt V (.reg ops false) st Kn Ke Kr := W_regS (h ⟨e⟩) hn
theorem u_19 (hn : W P vl nt V a ⟨[], st'.vars, st'.objs, st.nx + 64 * ops.length⟩ Kn Ke Kr) (h : RS V ops st st' := by intro K hK; simp [List.take_of_length_le h]; repeat' (first | with_reducible exact hK | (with_reducible refine goL_split (fun _ => ?_) (fun _ => ?_) <;> simp [List.take_of_length_le h]) | with_reducible refine And.intro ?_ ?_ | with_reducible exact okay_rfl rfl | with_reducible assumption | omega)) : W P vl nt V (.seq (.reg ops false) a) st Kn Ke Kr := W_seq (W_regS (h) hn)
theorem u_20 (e : E) (h : Hid E → p := by intro e; (repeat' (first | refine W_seq ?_ | refine W_skip ?_ | refine W_block ?_ | refine W_exit ?_ | refine pick_pos rfl ?_ | refine pick_neg rfl ?_ | ((first | refine W_regP fun K hK => ?_ | refine W_regPD fun K hK => ?_ | refine W_ret ?_); simp [Fin, e.o]) | (with_reducible refine hK _ ?_; clear hK K) | (with_reducible refine goL_split (fun h => ?_) (fun h => ?_) <;> first | (exfalso; simp at h; first | done | omega | contradiction) | ((try simp at h); simp [e.o])) | with_reducible refine And.intro ?_ ?_ | with_reducible exact okay_rfl rfl | with_reducible assumption | (refine W_cond rfl (fun h => ?_) (fun h => ?_) <;> first | (exfalso; simp at h; first | done | omega | contradiction) | (exfalso; simp_all; done) | (try simp at h)) | omega)); all_goals first | exact h0.o | exact h1.o | exact h2.o | exact h3.o) : p := h ⟨e⟩
theorem u_21 (e : E) (h0 : q0) (h : Hid E → Hid q0 → p := by intro e; intro h0; exact u_20 e.o) : p := h ⟨e⟩ ⟨h0⟩
theorem u_22 (h : p := by simp [gc, closeN, liveA, gcV, gcO, renA, renAs, renO, namesAs, namesA, namesO, posn]) : p := h
theorem u_23 (e : E) (k : L) (h : Hid E → Hid L → p := by intro e k; (repeat' (first | refine W_seq ?_ | refine W_skip ?_ | refine W_block ?_ | refine W_exit ?_ | refine pick_pos rfl ?_ | refine pick_neg rfl ?_ | ((first | refine W_regP fun K hK => ?_ | refine W_regPD fun K hK => ?_ | refine W_ret ?_ | with_reducible refine callQ k.o.1 ?_ | with_reducible refine callQ k.o.2.1 ?_ | with_reducible refine callQ k.o.2.2.1 ?_ | with_reducible refine callQ k.o.2.2.2.1 ?_ | with_reducible refine callQ k.o.2.2.2.2.1 ?_ | with_reducible refine callQ k.o.2.2.2.2.2.1 ?_ | with_reducible refine callQ k.o.2.2.2.2.2.2.1 ?_ | with_reducible refine callQ k.o.2.2.2.2.2.2.2.1 ?_); simp [Fin, e.o, strs_get]) | (with_reducible refine hK _ ?_; clear hK K) | (with_reducible refine goL_split (fun h => ?_) (fun h => ?_) <;> first | (exfalso; simp at h; first | done | omega | contradiction) | ((try simp at h); simp [e.o, strs_get])) | with_reducible refine And.intro ?_ ?_ | with_reducible exact okay_rfl rfl | with_reducible assumption | (refine W_cond rfl (fun h => ?_) (fun h => ?_) <;> first | (exfalso; simp at h; first | done | omega | contradiction) | (exfalso; simp_all; done) | (try simp at h)) | omega)); all_goals first | exact h0.o | exact h1.o | exact h2.o | exact h3.o) : p := h ⟨e⟩ ⟨k⟩
theorem u_24 (e : E) (k : L) (h0 : q0) (h : Hid E → Hid L → Hid q0 → p := by intro e k; intro h0; exact u_23 e.o k.o) : p := h ⟨e⟩ ⟨k⟩ ⟨h0⟩
theorem u_25 (h0 : q0) (h : Hid q0 → p := by intro h0; (simp [gc, closeN, liveA, gcV, gcO, renA, renAs, renO, namesAs, namesA, namesO, posn]); exact h0.o) : p := h ⟨h0⟩
theorem u_26 (e : E) (k : L) (r : Nat) (b : Bool) (hn : W P vl nt V a ⟨[], put st.vars r (.d (.bool b)), st.objs, st.nx + 64 * ops.length⟩ Kn Ke Kr) (h : Hid E → Hid L → RB V ops st r b := by intro e k K hK; simp [e.o]; repeat' (first | exact hK _ _ (by clear hK; exact bq) | ((with_reducible first | refine callQ k.o.1 ?_ | refine callQ k.o.2.1 ?_ | refine callQ k.o.2.2.1 ?_ | refine callQ k.o.2.2.2.1 ?_ | refine callQ k.o.2.2.2.2.1 ?_ | refine callQ k.o.2.2.2.2.2.1 ?_ | refine callQ k.o.2.2.2.2.2.2.1 ?_ | refine callQ k.o.2.2.2.2.2.2.2.1 ?_); simp [e.o]) | (with_reducible refine goL_split (fun _ => ?_) (fun _ => ?_) <;> simp [e.o]) | with_reducible refine And.intro ?_ ?_ | with_reducible exact okay_rfl rfl | with_reducible assumption | omega)) : W P vl nt V (.seq (.reg ops false) a) st Kn Ke Kr := W_seq (W_regB r b (h ⟨e⟩ ⟨k⟩) hn)
theorem u_27 (h : p := by (repeat' (first | refine W_seq ?_ | refine W_skip ?_ | refine W_block ?_ | refine W_exit ?_ | refine pick_pos rfl ?_ | refine pick_neg rfl ?_ | ((first | refine W_regP fun K hK => ?_ | refine W_regPD fun K hK => ?_ | refine W_ret ?_); simp [Fin]) | (with_reducible refine hK _ ?_; clear hK K) | (with_reducible refine goL_split (fun h => ?_) (fun h => ?_) <;> first | (exfalso; simp at h; first | done | omega | contradiction) | ((try simp at h); simp)) | with_reducible refine And.intro ?_ ?_ | with_reducible exact okay_rfl rfl | with_reducible assumption | (refine W_cond rfl (fun h => ?_) (fun h => ?_) <;> first | (exfalso; simp at h; first | done | omega | contradiction) | (exfalso; simp_all; done) | (try simp at h)) | omega)); all_goals first | exact h0.o | exact h1.o | exact h2.o | exact h3.o) : p := h
theorem u_28 (h0 : q0) (h : Hid q0 → p := by intro h0; exact u_27) : p := h ⟨h0⟩
theorem u_29 (e : E) (k : L) (h : Hid E → Hid L → p := by intro e k; (repeat' (first | refine W_seq ?_ | refine W_skip ?_ | refine W_block ?_ | refine W_exit ?_ | refine pick_pos rfl ?_ | refine pick_neg rfl ?_ | ((first | refine W_regP fun K hK => ?_ | refine W_regPD fun K hK => ?_ | refine W_ret ?_ | with_reducible refine callQ k.o.1 ?_ | with_reducible refine callQ k.o.2.1 ?_ | with_reducible refine callQ k.o.2.2.1 ?_ | with_reducible refine callQ k.o.2.2.2.1 ?_ | with_reducible refine callQ k.o.2.2.2.2.1 ?_ | with_reducible refine callQ k.o.2.2.2.2.2.1 ?_ | with_reducible refine callQ k.o.2.2.2.2.2.2.1 ?_ | with_reducible refine callQ k.o.2.2.2.2.2.2.2.1 ?_); simp [Fin, e.o]) | (with_reducible refine hK _ ?_; clear hK K) | (with_reducible refine goL_split (fun h => ?_) (fun h => ?_) <;> first | (exfalso; simp at h; first | done | omega | contradiction) | ((try simp at h); simp [e.o])) | with_reducible refine And.intro ?_ ?_ | with_reducible exact okay_rfl rfl | with_reducible assumption | (refine W_cond rfl (fun h => ?_) (fun h => ?_) <;> first | (exfalso; simp at h; first | done | omega | contradiction) | (exfalso; simp_all; done) | (try simp at h)) | omega)); all_goals first | exact h0.o | exact h1.o | exact h2.o | exact h3.o) : p := h ⟨e⟩ ⟨k⟩
theorem u_30 (e : E) (k : L) (h0 : q0) (h : Hid E → Hid L → Hid q0 → p := by intro e k; intro h0; exact u_29 e.o k.o) : p := h ⟨e⟩ ⟨k⟩ ⟨h0⟩
theorem u_31 (k : L) (h : Hid L → p := by intro k; (repeat' (first | refine W_seq ?_ | refine W_skip ?_ | refine W_block ?_ | refine W_exit ?_ | refine pick_pos rfl ?_ | refine pick_neg rfl ?_ | ((first | refine W_regP fun K hK => ?_ | refine W_regPD fun K hK => ?_ | refine W_ret ?_ | with_reducible refine callQ k.o.1 ?_ | with_reducible refine callQ k.o.2.1 ?_ | with_reducible refine callQ k.o.2.2.1 ?_ | with_reducible refine callQ k.o.2.2.2.1 ?_ | with_reducible refine callQ k.o.2.2.2.2.1 ?_ | with_reducible refine callQ k.o.2.2.2.2.2.1 ?_ | with_reducible refine callQ k.o.2.2.2.2.2.2.1 ?_ | with_reducible refine callQ k.o.2.2.2.2.2.2.2.1 ?_); simp [Fin]) | (with_reducible refine hK _ ?_; clear hK K) | (with_reducible refine goL_split (fun h => ?_) (fun h => ?_) <;> first | (exfalso; simp at h; first | done | omega | contradiction) | ((try simp at h); simp)) | with_reducible refine And.intro ?_ ?_ | with_reducible exact okay_rfl rfl | with_reducible assumption | (refine W_cond rfl (fun h => ?_) (fun h => ?_) <;> first | (exfalso; simp at h; first | done | omega | contradiction) | (exfalso; simp_all; done) | (try simp at h)) | omega)); all_goals first | exact h0.o | exact h1.o | exact h2.o | exact h3.o) : p := h ⟨k⟩
theorem u_32 (e : E) (h : Hid E → p := by intro e; simp [gc, closeN, liveA, gcV, gcO, renA, renAs, renO, namesAs, namesA, namesO, posn, e.o]) : p := h ⟨e⟩
theorem u_33 (e : E) (h0 : q0) (h : Hid E → Hid q0 → p := by intro e; intro h0; (simp [gc, closeN, liveA, gcV, gcO, renA, renAs, renO, namesAs, namesA, namesO, posn, e.o]); exact h0.o) : p := h ⟨e⟩ ⟨h0⟩
theorem u_34 (k : L) (r : Nat) (b : Bool) (hn : Kn ⟨[], put st.vars r (.d (.bool b)), st.objs, st.nx + 64 * ops.length⟩) (h : Hid L → RB V ops st r b := by intro k K hK; simp; repeat' (first | exact hK _ _ (by clear hK; exact bq) | ((with_reducible first | refine callQ k.o.1 ?_ | refine callQ k.o.2.1 ?_ | refine callQ k.o.2.2.1 ?_ | refine callQ k.o.2.2.2.1 ?_ | refine callQ k.o.2.2.2.2.1 ?_ | refine callQ k.o.2.2.2.2.2.1 ?_ | refine callQ k.o.2.2.2.2.2.2.1 ?_ | refine callQ k.o.2.2.2.2.2.2.2.1 ?_); simp) | (with_reducible refine goL_split (fun _ => ?_) (fun _ => ?_) <;> simp) | with_reducible refine And.intro ?_ ?_ | with_reducible exact okay_rfl rfl | with_reducible assumption | omega)) : W P vl nt V (.reg ops false) st Kn Ke Kr := W_regB r b (h ⟨k⟩) hn
theorem u_35 (k : L) (h : Hid L → p := by intro k; (repeat' (first | refine W_seq ?_ | refine W_skip ?_ | refine W_block ?_ | refine W_exit ?_ | refine pick_pos rfl ?_ | refine pick_neg rfl ?_ | ((first | refine W_regP fun K hK => ?_ | refine W_regPD fun K hK => ?_ | refine W_ret ?_ | with_reducible refine callQ k.o.1 ?_ | with_reducible refine callQ k.o.2.1 ?_ | with_reducible refine callQ k.o.2.2.1 ?_ | with_reducible refine callQ k.o.2.2.2.1 ?_ | with_reducible refine callQ k.o.2.2.2.2.1 ?_ | with_reducible refine callQ k.o.2.2.2.2.2.1 ?_ | with_reducible refine callQ k.o.2.2.2.2.2.2.1 ?_ | with_reducible refine callQ k.o.2.2.2.2.2.2.2.1 ?_); simp [Fin, zLease]) | (with_reducible refine hK _ ?_; clear hK K) | (with_reducible refine goL_split (fun h => ?_) (fun h => ?_) <;> first | (exfalso; simp at h; first | done | omega | contradiction) | ((try simp at h); simp [zLease])) | with_reducible refine And.intro ?_ ?_ | with_reducible exact okay_rfl rfl | with_reducible assumption | (refine W_cond rfl (fun h => ?_) (fun h => ?_) <;> first | (exfalso; simp at h; first | done | omega | contradiction) | (exfalso; simp_all; done) | (try simp at h)) | omega)); all_goals first | exact h0.o | exact h1.o | exact h2.o | exact h3.o) : p := h ⟨k⟩
theorem u_36 (k : L) (h0 : q0) (h : Hid L → Hid q0 → p := by intro k; intro h0; exact u_31 k.o) : p := h ⟨k⟩ ⟨h0⟩
theorem u_37 (h : p := by (repeat' (first | refine W_seq ?_ | refine W_skip ?_ | refine W_block ?_ | refine W_exit ?_ | refine pick_pos rfl ?_ | refine pick_neg rfl ?_ | ((first | refine W_regP fun K hK => ?_ | refine W_regPD fun K hK => ?_ | refine W_ret ?_); simp [Fin, ints_len]) | (with_reducible refine hK _ ?_; clear hK K) | (with_reducible refine goL_split (fun h => ?_) (fun h => ?_) <;> first | (exfalso; simp at h; first | done | omega | contradiction) | ((try simp at h); simp [ints_len])) | with_reducible refine And.intro ?_ ?_ | with_reducible exact okay_rfl rfl | with_reducible assumption | (refine W_cond rfl (fun h => ?_) (fun h => ?_) <;> first | (exfalso; simp at h; first | done | omega | contradiction) | (exfalso; simp_all; done) | (try simp at h)) | omega)); all_goals first | exact h0.o | exact h1.o | exact h2.o | exact h3.o) : p := h
theorem u_38 (h0 : q0) (h : Hid q0 → p := by intro h0; exact u_37) : p := h ⟨h0⟩
theorem u_39 (h : p := by simp [gc, closeN, liveA, gcV, gcO, renA, renAs, renO, namesAs, namesA, namesO, posn, ints_len]) : p := h
theorem u_40 (e : E) (h : Hid E → p := by intro e; (repeat' (first | refine W_seq ?_ | refine W_skip ?_ | refine W_block ?_ | refine W_exit ?_ | refine pick_pos rfl ?_ | refine pick_neg rfl ?_ | ((first | refine W_regP fun K hK => ?_ | refine W_regPD fun K hK => ?_ | refine W_ret ?_); simp [Fin, e.o, ints_get]) | (with_reducible refine hK _ ?_; clear hK K) | (with_reducible refine goL_split (fun h => ?_) (fun h => ?_) <;> first | (exfalso; simp at h; first | done | omega | contradiction) | ((try simp at h); simp [e.o, ints_get])) | with_reducible refine And.intro ?_ ?_ | with_reducible exact okay_rfl rfl | with_reducible assumption | (refine W_cond rfl (fun h => ?_) (fun h => ?_) <;> first | (exfalso; simp at h; first | done | omega | contradiction) | (exfalso; simp_all; done) | (try simp at h)) | omega)); all_goals first | exact h0.o | exact h1.o | exact h2.o | exact h3.o) : p := h ⟨e⟩
theorem u_41 (h0 : q0) (h : Hid q0 → p := by intro h0; (simp [gc, closeN, liveA, gcV, gcO, renA, renAs, renO, namesAs, namesA, namesO, posn, ints_len]); exact h0.o) : p := h ⟨h0⟩
theorem u_42 (e : E) (h : Hid E → p := by intro e; (repeat' (first | refine W_seq ?_ | refine W_skip ?_ | refine W_block ?_ | refine W_exit ?_ | refine pick_pos rfl ?_ | refine pick_neg rfl ?_ | ((first | refine W_regP fun K hK => ?_ | refine W_regPD fun K hK => ?_ | refine W_ret ?_); simp [Fin, e.o, ints_get, ints_len]) | (with_reducible refine hK _ ?_; clear hK K) | (with_reducible refine goL_split (fun h => ?_) (fun h => ?_) <;> first | (exfalso; simp at h; first | done | omega | contradiction) | ((try simp at h); simp [e.o, ints_get, ints_len])) | with_reducible refine And.intro ?_ ?_ | with_reducible exact okay_rfl rfl | with_reducible assumption | (refine W_cond rfl (fun h => ?_) (fun h => ?_) <;> first | (exfalso; simp at h; first | done | omega | contradiction) | (exfalso; simp_all; done) | (try simp at h)) | omega)); all_goals first | exact h0.o | exact h1.o | exact h2.o | exact h3.o) : p := h ⟨e⟩
theorem u_43 (e : E) (h0 : q0) (h : Hid E → Hid q0 → p := by intro e; intro h0; exact u_42 e.o) : p := h ⟨e⟩ ⟨h0⟩
theorem u_44 (e : E) (k : L) (h : Hid E → Hid L → p := by intro e k; (repeat' (first | refine W_seq ?_ | refine W_skip ?_ | refine W_block ?_ | refine W_exit ?_ | refine pick_pos rfl ?_ | refine pick_neg rfl ?_ | ((first | refine W_regP fun K hK => ?_ | refine W_regPD fun K hK => ?_ | refine W_ret ?_ | with_reducible refine callQ k.o.1 ?_ | with_reducible refine callQ k.o.2.1 ?_ | with_reducible refine callQ k.o.2.2.1 ?_ | with_reducible refine callQ k.o.2.2.2.1 ?_ | with_reducible refine callQ k.o.2.2.2.2.1 ?_ | with_reducible refine callQ k.o.2.2.2.2.2.1 ?_ | with_reducible refine callQ k.o.2.2.2.2.2.2.1 ?_ | with_reducible refine callQ k.o.2.2.2.2.2.2.2.1 ?_); simp [Fin, e.o, ints_len, limit]) | (with_reducible refine hK _ ?_; clear hK K) | (with_reducible refine goL_split (fun h => ?_) (fun h => ?_) <;> first | (exfalso; simp at h; first | done | omega | contradiction) | ((try simp at h); simp [e.o, ints_len, limit])) | with_reducible refine And.intro ?_ ?_ | with_reducible exact okay_rfl rfl | with_reducible assumption | (refine W_cond rfl (fun h => ?_) (fun h => ?_) <;> first | (exfalso; simp at h; first | done | omega | contradiction) | (exfalso; simp_all; done) | (try simp at h)) | omega)); all_goals first | exact h0.o | exact h1.o | exact h2.o | exact h3.o) : p := h ⟨e⟩ ⟨k⟩
theorem u_45 (e : E) (k : L) (h0 : q0) (h : Hid E → Hid L → Hid q0 → p := by intro e k; intro h0; exact u_44 e.o k.o) : p := h ⟨e⟩ ⟨k⟩ ⟨h0⟩
theorem u_46 (h0 : q0) (h : Hid q0 → p := by intro h0; (simp [gc, closeN, liveA, gcV, gcO, renA, renAs, renO, namesAs, namesA, namesO, posn, intsD_snoc]); exact h0.o) : p := h ⟨h0⟩
theorem u_47 (k : L) (h : Hid L → p := by intro k; (repeat' (first | refine W_seq ?_ | refine W_skip ?_ | refine W_block ?_ | refine W_exit ?_ | refine pick_pos rfl ?_ | refine pick_neg rfl ?_ | ((first | refine W_regP fun K hK => ?_ | refine W_regPD fun K hK => ?_ | refine W_ret ?_ | with_reducible refine callQ k.o.1 ?_ | with_reducible refine callQ k.o.2.1 ?_ | with_reducible refine callQ k.o.2.2.1 ?_ | with_reducible refine callQ k.o.2.2.2.1 ?_ | with_reducible refine callQ k.o.2.2.2.2.1 ?_ | with_reducible refine callQ k.o.2.2.2.2.2.1 ?_ | with_reducible refine callQ k.o.2.2.2.2.2.2.1 ?_ | with_reducible refine callQ k.o.2.2.2.2.2.2.2.1 ?_); simp [Fin, intsD]) | (with_reducible refine hK _ ?_; clear hK K) | (with_reducible refine goL_split (fun h => ?_) (fun h => ?_) <;> first | (exfalso; simp at h; first | done | omega | contradiction) | ((try simp at h); simp [intsD])) | with_reducible refine And.intro ?_ ?_ | with_reducible exact okay_rfl rfl | with_reducible assumption | (refine W_cond rfl (fun h => ?_) (fun h => ?_) <;> first | (exfalso; simp at h; first | done | omega | contradiction) | (exfalso; simp_all; done) | (try simp at h)) | omega)); all_goals first | exact h0.o | exact h1.o | exact h2.o | exact h3.o) : p := h ⟨k⟩
theorem u_48 (e : E) (k : L) (h : Hid E → Hid L → p := by intro e k; (repeat' (first | refine W_seq ?_ | refine W_skip ?_ | refine W_block ?_ | refine W_exit ?_ | refine pick_pos rfl ?_ | refine pick_neg rfl ?_ | ((first | refine W_regP fun K hK => ?_ | refine W_regPD fun K hK => ?_ | refine W_ret ?_ | with_reducible refine callQ k.o.1 ?_ | with_reducible refine callQ k.o.2.1 ?_ | with_reducible refine callQ k.o.2.2.1 ?_ | with_reducible refine callQ k.o.2.2.2.1 ?_ | with_reducible refine callQ k.o.2.2.2.2.1 ?_ | with_reducible refine callQ k.o.2.2.2.2.2.1 ?_ | with_reducible refine callQ k.o.2.2.2.2.2.2.1 ?_ | with_reducible refine callQ k.o.2.2.2.2.2.2.2.1 ?_); simp [Fin, e.o, intsD]) | (with_reducible refine hK _ ?_; clear hK K) | (with_reducible refine goL_split (fun h => ?_) (fun h => ?_) <;> first | (exfalso; simp at h; first | done | omega | contradiction) | ((try simp at h); simp [e.o, intsD])) | with_reducible refine And.intro ?_ ?_ | with_reducible exact okay_rfl rfl | with_reducible assumption | (refine W_cond rfl (fun h => ?_) (fun h => ?_) <;> first | (exfalso; simp at h; first | done | omega | contradiction) | (exfalso; simp_all; done) | (try simp at h)) | omega)); all_goals first | exact h0.o | exact h1.o | exact h2.o | exact h3.o) : p := h ⟨e⟩ ⟨k⟩
theorem u_49 (h : p := by simp [gc, closeN, liveA, gcV, gcO, renA, renAs, renO, namesAs, namesA, namesO, posn, intsD]) : p := h
theorem u_50 (k : L) (hn : Kn ⟨[], st'.vars, st'.objs, st.nx + 64 * ops.length⟩) (h : Hid L → RS V ops st st' := by intro k K hK; simp; repeat' (first | with_reducible exact hK | ((with_reducible first | refine callQ k.o.1 ?_ | refine callQ k.o.2.1 ?_ | refine callQ k.o.2.2.1 ?_ | refine callQ k.o.2.2.2.1 ?_ | refine callQ k.o.2.2.2.2.1 ?_ | refine callQ k.o.2.2.2.2.2.1 ?_ | refine callQ k.o.2.2.2.2.2.2.1 ?_ | refine callQ k.o.2.2.2.2.2.2.2.1 ?_); simp) | (with_reducible refine goL_split (fun _ => ?_) (fun _ => ?_) <;> simp) | with_reducible refine And.intro ?_ ?_ | with_reducible exact okay_rfl rfl | with_reducible assumption | omega)) : W P vl nt V (.reg ops false) st Kn Ke Kr := W_regS (h ⟨k⟩) hn
theorem u_51 (h : p := by (repeat' (first | refine W_seq ?_ | refine W_skip ?_ | refine W_block ?_ | refine W_exit ?_ | refine pick_pos rfl ?_ | refine pick_neg rfl ?_ | ((first | refine W_regP fun K hK => ?_ | refine W_regPD fun K hK => ?_ | refine W_ret ?_); simp [Fin, strsD_len]) | (with_reducible refine hK _ ?_; clear hK K) | (with_reducible refine goL_split (fun h => ?_) (fun h => ?_) <;> first | (exfalso; simp at h; first | done | omega | contradiction) | ((try simp at h); simp [strsD_len])) | with_reducible refine And.intro ?_ ?_ | with_reducible exact okay_rfl rfl | with_reducible assumption | (refine W_cond rfl (fun h => ?_) (fun h => ?_) <;> first | (exfalso; simp at h; first | done | omega | contradiction) | (exfalso; simp_all; done) | (try simp at h)) | omega)); all_goals first | exact h0.o | exact h1.o | exact h2.o | exact h3.o) : p := h
theorem u_52 (h0 : q0) (h : Hid q0 → p := by intro h0; exact u_51) : p := h ⟨h0⟩
theorem u_53 (h : p := by simp [gc, closeN, liveA, gcV, gcO, renA, renAs, renO, namesAs, namesA, namesO, posn, rToken]) : p := h
theorem u_54 (e : E) (k : L) (h : Hid E → Hid L → p := by intro e k; (repeat' (first | refine W_seq ?_ | refine W_skip ?_ | refine W_block ?_ | refine W_exit ?_ | refine pick_pos rfl ?_ | refine pick_neg rfl ?_ | ((first | refine W_regP fun K hK => ?_ | refine W_regPD fun K hK => ?_ | refine W_ret ?_ | with_reducible refine callQ k.o.1 ?_ | with_reducible refine callQ k.o.2.1 ?_ | with_reducible refine callQ k.o.2.2.1 ?_ | with_reducible refine callQ k.o.2.2.2.1 ?_ | with_reducible refine callQ k.o.2.2.2.2.1 ?_ | with_reducible refine callQ k.o.2.2.2.2.2.1 ?_ | with_reducible refine callQ k.o.2.2.2.2.2.2.1 ?_ | with_reducible refine callQ k.o.2.2.2.2.2.2.2.1 ?_); simp [Fin, e.o, limit]) | (with_reducible refine hK _ ?_; clear hK K) | (with_reducible refine goL_split (fun h => ?_) (fun h => ?_) <;> first | (exfalso; simp at h; first | done | omega | contradiction) | ((try simp at h); simp [e.o, limit])) | with_reducible refine And.intro ?_ ?_ | with_reducible exact okay_rfl rfl | with_reducible assumption | (refine W_cond rfl (fun h => ?_) (fun h => ?_) <;> first | (exfalso; simp at h; first | done | omega | contradiction) | (exfalso; simp_all; done) | (try simp at h)) | omega)); all_goals first | exact h0.o | exact h1.o | exact h2.o | exact h3.o) : p := h ⟨e⟩ ⟨k⟩
theorem u_55 (e : E) (k : L) (h0 : q0) (h : Hid E → Hid L → Hid q0 → p := by intro e k; intro h0; exact u_54 e.o k.o) : p := h ⟨e⟩ ⟨k⟩ ⟨h0⟩
theorem u_56 (h : p := by simp [gc, closeN, liveA, gcV, gcO, renA, renAs, renO, namesAs, namesA, namesO, posn, rLease]) : p := h
theorem u_57 (e : E) (h : Hid E → p := by intro e; (repeat' (first | refine W_seq ?_ | refine W_skip ?_ | refine W_block ?_ | refine W_exit ?_ | refine pick_pos rfl ?_ | refine pick_neg rfl ?_ | ((first | refine W_regP fun K hK => ?_ | refine W_regPD fun K hK => ?_ | refine W_ret ?_); simp [Fin, e.o, limit]) | (with_reducible refine hK _ ?_; clear hK K) | (with_reducible refine goL_split (fun h => ?_) (fun h => ?_) <;> first | (exfalso; simp at h; first | done | omega | contradiction) | ((try simp at h); simp [e.o, limit])) | with_reducible refine And.intro ?_ ?_ | with_reducible exact okay_rfl rfl | with_reducible assumption | (refine W_cond rfl (fun h => ?_) (fun h => ?_) <;> first | (exfalso; simp at h; first | done | omega | contradiction) | (exfalso; simp_all; done) | (try simp at h)) | omega)); all_goals first | exact h0.o | exact h1.o | exact h2.o | exact h3.o) : p := h ⟨e⟩
theorem u_58 (e : E) (h0 : q0) (h : Hid E → Hid q0 → p := by intro e; intro h0; exact u_57 e.o) : p := h ⟨e⟩ ⟨h0⟩
theorem u_59 (h : p := by simp [gc, closeN, liveA, gcV, gcO, renA, renAs, renO, namesAs, namesA, namesO, posn, rUser]) : p := h
theorem u_60 (k : L) (h : Hid L → p := by intro k; (repeat' (first | refine W_seq ?_ | refine W_skip ?_ | refine W_block ?_ | refine W_exit ?_ | refine pick_pos rfl ?_ | refine pick_neg rfl ?_ | ((first | refine W_regP fun K hK => ?_ | refine W_regPD fun K hK => ?_ | refine W_ret ?_ | with_reducible refine callQ k.o.1 ?_ | with_reducible refine callQ k.o.2.1 ?_ | with_reducible refine callQ k.o.2.2.1 ?_ | with_reducible refine callQ k.o.2.2.2.1 ?_ | with_reducible refine callQ k.o.2.2.2.2.1 ?_ | with_reducible refine callQ k.o.2.2.2.2.2.1 ?_ | with_reducible refine callQ k.o.2.2.2.2.2.2.1 ?_ | with_reducible refine callQ k.o.2.2.2.2.2.2.2.1 ?_); simp [Fin, limit]) | (with_reducible refine hK _ ?_; clear hK K) | (with_reducible refine goL_split (fun h => ?_) (fun h => ?_) <;> first | (exfalso; simp at h; first | done | omega | contradiction) | ((try simp at h); simp [limit])) | with_reducible refine And.intro ?_ ?_ | with_reducible exact okay_rfl rfl | with_reducible assumption | (refine W_cond rfl (fun h => ?_) (fun h => ?_) <;> first | (exfalso; simp at h; first | done | omega | contradiction) | (exfalso; simp_all; done) | (try simp at h)) | omega)); all_goals first | exact h0.o | exact h1.o | exact h2.o | exact h3.o) : p := h ⟨k⟩
theorem u_61 (h : p := by simp [gc, closeN, liveA, gcV, gcO, renA, renAs, renO, namesAs, namesA, namesO, posn, rJob, rq, strsD]) : p := h
theorem u_62 (h0 : q0) (h : Hid q0 → p := by intro h0; (simp [gc, closeN, liveA, gcV, gcO, renA, renAs, renO, namesAs, namesA, namesO, posn, ← rJob_one]); exact h0.o) : p := h ⟨h0⟩
theorem u_63 (h0 : q0) (h : Hid q0 → p := by intro h0; (simp [gc, closeN, liveA, gcV, gcO, renA, renAs, renO, namesAs, namesA, namesO, posn, ← strsD_one]); exact h0.o) : p := h ⟨h0⟩
theorem u_64 (e : E) (k : L) (h : Hid E → Hid L → p := by intro e k; (repeat' (first | refine W_seq ?_ | refine W_skip ?_ | refine W_block ?_ | refine W_exit ?_ | refine pick_pos rfl ?_ | refine pick_neg rfl ?_ | ((first | refine W_regP fun K hK => ?_ | refine W_regPD fun K hK => ?_ | refine W_ret ?_ | with_reducible refine callQ k.o.1 ?_ | with_reducible refine callQ k.o.2.1 ?_ | with_reducible refine callQ k.o.2.2.1 ?_ | with_reducible refine callQ k.o.2.2.2.1 ?_ | with_reducible refine callQ k.o.2.2.2.2.1 ?_ | with_reducible refine callQ k.o.2.2.2.2.2.1 ?_ | with_reducible refine callQ k.o.2.2.2.2.2.2.1 ?_ | with_reducible refine callQ k.o.2.2.2.2.2.2.2.1 ?_); simp [Fin, e.o, limit, shBin_shl]) | (with_reducible refine hK _ ?_; clear hK K) | (with_reducible refine goL_split (fun h => ?_) (fun h => ?_) <;> first | (exfalso; simp at h; first | done | omega | contradiction) | ((try simp at h); simp [e.o, limit, shBin_shl])) | with_reducible refine And.intro ?_ ?_ | with_reducible exact okay_rfl rfl | with_reducible assumption | (refine W_cond rfl (fun h => ?_) (fun h => ?_) <;> first | (exfalso; simp at h; first | done | omega | contradiction) | (exfalso; simp_all; done) | (try simp at h)) | omega)); all_goals first | exact h0.o | exact h1.o | exact h2.o | exact h3.o) : p := h ⟨e⟩ ⟨k⟩
theorem u_65 (e : E) (k : L) (h0 : q0) (h : Hid E → Hid L → Hid q0 → p := by intro e k; intro h0; exact u_64 e.o k.o) : p := h ⟨e⟩ ⟨k⟩ ⟨h0⟩
theorem u_66 (h : p := by simp [gc, closeN, liveA, gcV, gcO, renA, renAs, renO, namesAs, namesA, namesO, posn, letAll]) : p := h
theorem u_67 (h0 : q0) (h : Hid q0 → p := by intro h0; (simp [gc, closeN, liveA, gcV, gcO, renA, renAs, renO, namesAs, namesA, namesO, posn, loseW]); exact h0.o) : p := h ⟨h0⟩
theorem u_68 (e : E) (k : L) (h : Hid E → Hid L → p := by intro e k; (repeat' (first | refine W_seq ?_ | refine W_skip ?_ | refine W_block ?_ | refine W_exit ?_ | refine pick_pos rfl ?_ | refine pick_neg rfl ?_ | ((first | refine W_regP fun K hK => ?_ | refine W_regPD fun K hK => ?_ | refine W_ret ?_ | with_reducible refine callQ k.o.1 ?_ | with_reducible refine callQ k.o.2.1 ?_ | with_reducible refine callQ k.o.2.2.1 ?_ | with_reducible refine callQ k.o.2.2.2.1 ?_ | with_reducible refine callQ k.o.2.2.2.2.1 ?_ | with_reducible refine callQ k.o.2.2.2.2.2.1 ?_ | with_reducible refine callQ k.o.2.2.2.2.2.2.1 ?_ | with_reducible refine callQ k.o.2.2.2.2.2.2.2.1 ?_); simp [Fin, e.o, strsD_len, strs_get]) | (with_reducible refine hK _ ?_; clear hK K) | (with_reducible refine goL_split (fun h => ?_) (fun h => ?_) <;> first | (exfalso; simp at h; first | done | omega | contradiction) | ((try simp at h); simp [e.o, strsD_len, strs_get])) | with_reducible refine And.intro ?_ ?_ | with_reducible exact okay_rfl rfl | with_reducible assumption | (refine W_cond rfl (fun h => ?_) (fun h => ?_) <;> first | (exfalso; simp at h; first | done | omega | contradiction) | (exfalso; simp_all; done) | (try simp at h)) | omega)); all_goals first | exact h0.o | exact h1.o | exact h2.o | exact h3.o) : p := h ⟨e⟩ ⟨k⟩
theorem u_69 (k : L) (h : Hid L → p := by intro k; (repeat' (first | refine W_seq ?_ | refine W_skip ?_ | refine W_block ?_ | refine W_exit ?_ | refine pick_pos rfl ?_ | refine pick_neg rfl ?_ | ((first | refine W_regP fun K hK => ?_ | refine W_regPD fun K hK => ?_ | refine W_ret ?_ | with_reducible refine callQ k.o.1 ?_ | with_reducible refine callQ k.o.2.1 ?_ | with_reducible refine callQ k.o.2.2.1 ?_ | with_reducible refine callQ k.o.2.2.2.1 ?_ | with_reducible refine callQ k.o.2.2.2.2.1 ?_ | with_reducible refine callQ k.o.2.2.2.2.2.1 ?_ | with_reducible refine callQ k.o.2.2.2.2.2.2.1 ?_ | with_reducible refine callQ k.o.2.2.2.2.2.2.2.1 ?_); simp [Fin, zUser]) | (with_reducible refine hK _ ?_; clear hK K) | (with_reducible refine goL_split (fun h => ?_) (fun h => ?_) <;> first | (exfalso; simp at h; first | done | omega | contradiction) | ((try simp at h); simp [zUser])) | with_reducible refine And.intro ?_ ?_ | with_reducible exact okay_rfl rfl | with_reducible assumption | (refine W_cond rfl (fun h => ?_) (fun h => ?_) <;> first | (exfalso; simp at h; first | done | omega | contradiction) | (exfalso; simp_all; done) | (try simp at h)) | omega)); all_goals first | exact h0.o | exact h1.o | exact h2.o | exact h3.o) : p := h ⟨k⟩
theorem u_70 (e : E) (k : L) (h : Hid E → Hid L → p := by intro e k; (repeat' (first | refine W_seq ?_ | refine W_skip ?_ | refine W_block ?_ | refine W_exit ?_ | refine pick_pos rfl ?_ | refine pick_neg rfl ?_ | ((first | refine W_regP fun K hK => ?_ | refine W_regPD fun K hK => ?_ | refine W_ret ?_ | with_reducible refine callQ k.o.1 ?_ | with_reducible refine callQ k.o.2.1 ?_ | with_reducible refine callQ k.o.2.2.1 ?_ | with_reducible refine callQ k.o.2.2.2.1 ?_ | with_reducible refine callQ k.o.2.2.2.2.1 ?_ | with_reducible refine callQ k.o.2.2.2.2.2.1 ?_ | with_reducible refine callQ k.o.2.2.2.2.2.2.1 ?_ | with_reducible refine callQ k.o.2.2.2.2.2.2.2.1 ?_); simp [Fin, e.o, zUser]) | (with_reducible refine hK _ ?_; clear hK K) | (with_reducible refine goL_split (fun h => ?_) (fun h => ?_) <;> first | (exfalso; simp at h; first | done | omega | contradiction) | ((try simp at h); simp [e.o, zUser])) | with_reducible refine And.intro ?_ ?_ | with_reducible exact okay_rfl rfl | with_reducible assumption | (refine W_cond rfl (fun h => ?_) (fun h => ?_) <;> first | (exfalso; simp at h; first | done | omega | contradiction) | (exfalso; simp_all; done) | (try simp at h)) | omega)); all_goals first | exact h0.o | exact h1.o | exact h2.o | exact h3.o) : p := h ⟨e⟩ ⟨k⟩
theorem u_71 (k : L) (h : Hid L → p := by intro k; (repeat' (first | refine W_seq ?_ | refine W_skip ?_ | refine W_block ?_ | refine W_exit ?_ | refine pick_pos rfl ?_ | refine pick_neg rfl ?_ | ((first | refine W_regP fun K hK => ?_ | refine W_regPD fun K hK => ?_ | refine W_ret ?_ | with_reducible refine callQ k.o.1 ?_ | with_reducible refine callQ k.o.2.1 ?_ | with_reducible refine callQ k.o.2.2.1 ?_ | with_reducible refine callQ k.o.2.2.2.1 ?_ | with_reducible refine callQ k.o.2.2.2.2.1 ?_ | with_reducible refine callQ k.o.2.2.2.2.2.1 ?_ | with_reducible refine callQ k.o.2.2.2.2.2.2.1 ?_ | with_reducible refine callQ k.o.2.2.2.2.2.2.2.1 ?_); simp [Fin, intsD, strsD]) | (with_reducible refine hK _ ?_; clear hK K) | (with_reducible refine goL_split (fun h => ?_) (fun h => ?_) <;> first | (exfalso; simp at h; first | done | omega | contradiction) | ((try simp at h); simp [intsD, strsD])) | with_reducible refine And.intro ?_ ?_ | with_reducible exact okay_rfl rfl | with_reducible assumption | (refine W_cond rfl (fun h => ?_) (fun h => ?_) <;> first | (exfalso; simp at h; first | done | omega | contradiction) | (exfalso; simp_all; done) | (try simp at h)) | omega)); all_goals first | exact h0.o | exact h1.o | exact h2.o | exact h3.o) : p := h ⟨k⟩
theorem u_72 (h : p := by (repeat' (first | refine D_ret ?_ | refine D_seq ?_ | refine D_skip ?_ | refine D_block ?_ | refine D_exit ?_ | refine pick_pos rfl ?_ | refine pick_neg rfl ?_ | ((first | refine D_regP fun K hK => ?_ | refine D_regPD fun K hK => ?_); simp [Fin]) | (with_reducible refine hK _ ?_; clear hK K) | (with_reducible refine goL_split (fun h => ?_) (fun h => ?_) <;> first | (exfalso; simp at h; first | done | omega | contradiction) | ((try simp at h); simp)) | with_reducible refine And.intro ?_ ?_ | with_reducible exact okay_rfl rfl | with_reducible assumption | (refine D_cond rfl (fun h => ?_) (fun h => ?_) <;> first | (exfalso; simp at h; first | done | omega | contradiction) | (exfalso; simp_all; done) | (try simp at h)) | omega)); all_goals first | exact h0.o | exact h1.o | exact h2.o | exact h3.o) : p := h
theorem u_73 (h0 : q0) (h : Hid q0 → p := by intro h0; exact u_72) : p := h ⟨h0⟩
theorem u_74 (e : E) (h : Hid E → p := by intro e; simp [gc, closeN, liveA, gcV, gcO, renA, renAs, renO, namesAs, namesA, namesO, posn, e.o]) : p := h ⟨e⟩
theorem u_75 (k : L) (h : Hid L → p := by intro k; (repeat' (first | refine D_ret ?_ | refine D_seq ?_ | refine D_skip ?_ | refine D_block ?_ | refine D_exit ?_ | refine pick_pos rfl ?_ | refine pick_neg rfl ?_ | ((first | refine D_regP fun K hK => ?_ | refine D_regPD fun K hK => ?_ | with_reducible refine callQ k.o.1 ?_ | with_reducible refine callQ k.o.2.1 ?_ | with_reducible refine callQ k.o.2.2.1 ?_ | with_reducible refine callQ k.o.2.2.2.1 ?_ | with_reducible refine callQ k.o.2.2.2.2.1 ?_ | with_reducible refine callQ k.o.2.2.2.2.2.1 ?_ | with_reducible refine callQ k.o.2.2.2.2.2.2.1 ?_ | with_reducible refine callQ k.o.2.2.2.2.2.2.2.1 ?_); simp [Fin]) | (with_reducible refine hK _ ?_; clear hK K) | (with_reducible refine goL_split (fun h => ?_) (fun h => ?_) <;> first | (exfalso; simp at h; first | done | omega | contradiction) | ((try simp at h); simp)) | with_reducible refine And.intro ?_ ?_ | with_reducible exact okay_rfl rfl | with_reducible assumption | (refine D_cond rfl (fun h => ?_) (fun h => ?_) <;> first | (exfalso; simp at h; first | done | omega | contradiction) | (exfalso; simp_all; done) | (try simp at h)) | omega)); all_goals first | exact h0.o | exact h1.o | exact h2.o | exact h3.o) : p := h ⟨k⟩
theorem u_76 (k : L) (h0 : q0) (h : Hid L → Hid q0 → p := by intro k; intro h0; exact u_75 k.o) : p := h ⟨k⟩ ⟨h0⟩
theorem u_77 (e : E) (k : L) (h : Hid E → Hid L → p := by intro e k; (repeat' (first | refine D_ret ?_ | refine D_seq ?_ | refine D_skip ?_ | refine D_block ?_ | refine D_exit ?_ | refine pick_pos rfl ?_ | refine pick_neg rfl ?_ | ((first | refine D_regP fun K hK => ?_ | refine D_regPD fun K hK => ?_ | with_reducible refine callQ k.o.1 ?_ | with_reducible refine callQ k.o.2.1 ?_ | with_reducible refine callQ k.o.2.2.1 ?_ | with_reducible refine callQ k.o.2.2.2.1 ?_ | with_reducible refine callQ k.o.2.2.2.2.1 ?_ | with_reducible refine callQ k.o.2.2.2.2.2.1 ?_ | with_reducible refine callQ k.o.2.2.2.2.2.2.1 ?_ | with_reducible refine callQ k.o.2.2.2.2.2.2.2.1 ?_); simp [Fin, e.o]) | (with_reducible refine hK _ ?_; clear hK K) | (with_reducible refine goL_split (fun h => ?_) (fun h => ?_) <;> first | (exfalso; simp at h; first | done | omega | contradiction) | ((try simp at h); simp [e.o])) | with_reducible refine And.intro ?_ ?_ | with_reducible exact okay_rfl rfl | with_reducible assumption | (refine D_cond rfl (fun h => ?_) (fun h => ?_) <;> first | (exfalso; simp at h; first | done | omega | contradiction) | (exfalso; simp_all; done) | (try simp at h)) | omega)); all_goals first | exact h0.o | exact h1.o | exact h2.o | exact h3.o) : p := h ⟨e⟩ ⟨k⟩
theorem u_78 (e : E) (k : L) (h0 : q0) (h : Hid E → Hid L → Hid q0 → p := by intro e k; intro h0; exact u_77 e.o k.o) : p := h ⟨e⟩ ⟨k⟩ ⟨h0⟩
theorem u_79 (hn : Dt P vl nt V a ⟨[], st'.vars, st'.objs, st.nx + 64 * ops.length⟩ Kn Ke Kr) (h : RS V ops st st' := by intro K hK; simp; repeat' (first | with_reducible exact hK | (with_reducible refine goL_split (fun _ => ?_) (fun _ => ?_) <;> simp) | with_reducible refine And.intro ?_ ?_ | with_reducible exact okay_rfl rfl | with_reducible assumption | omega)) : Dt P vl nt V (.seq (.reg ops false) a) st Kn Ke Kr := D_seq (D_regS (h) hn)
theorem u_80 (k : L) (hn : Kn ⟨[], st'.vars, st'.objs, st.nx + 64 * ops.length⟩) (h : Hid L → RS V ops st st' := by intro k K hK; simp; repeat' (first | with_reducible exact hK | ((with_reducible first | refine callQ k.o.1 ?_ | refine callQ k.o.2.1 ?_ | refine callQ k.o.2.2.1 ?_ | refine callQ k.o.2.2.2.1 ?_ | refine callQ k.o.2.2.2.2.1 ?_ | refine callQ k.o.2.2.2.2.2.1 ?_ | refine callQ k.o.2.2.2.2.2.2.1 ?_ | refine callQ k.o.2.2.2.2.2.2.2.1 ?_); simp) | (with_reducible refine goL_split (fun _ => ?_) (fun _ => ?_) <;> simp) | with_reducible refine And.intro ?_ ?_ | with_reducible exact okay_rfl rfl | with_reducible assumption | omega)) : Dt P vl nt V (.reg ops false) st Kn Ke Kr := D_regS (h ⟨k⟩) hn
theorem u_81 (e : E) (h : Hid E → p := by intro e; (repeat' (first | refine D_ret ?_ | refine D_seq ?_ | refine D_skip ?_ | refine D_block ?_ | refine D_exit ?_ | refine pick_pos rfl ?_ | refine pick_neg rfl ?_ | ((first | refine D_regP fun K hK => ?_ | refine D_regPD fun K hK => ?_); simp [Fin, e.o]) | (with_reducible refine hK _ ?_; clear hK K) | (with_reducible refine goL_split (fun h => ?_) (fun h => ?_) <;> first | (exfalso; simp at h; first | done | omega | contradiction) | ((try simp at h); simp [e.o])) | with_reducible refine And.intro ?_ ?_ | with_reducible exact okay_rfl rfl | with_reducible assumption | (refine D_cond rfl (fun h => ?_) (fun h => ?_) <;> first | (exfalso; simp at h; first | done | omega | contradiction) | (exfalso; simp_all; done) | (try simp at h)) | omega)); all_goals first | exact h0.o | exact h1.o | exact h2.o | exact h3.o) : p := h ⟨e⟩
theorem u_82 (e : E) (h0 : q0) (h : Hid E → Hid q0 → p := by intro e; intro h0; exact u_81 e.o) : p := h ⟨e⟩ ⟨h0⟩
theorem u_83 (h : p := by simp [gc, closeN, liveA, gcV, gcO, renA, renAs, renO, namesAs, namesA, namesO, posn, verOf]) : p := h
theorem u_84 (h : p := by simp [gc, closeN, liveA, gcV, gcO, renA, renAs, renO, namesAs, namesA, namesO, posn, strsD_len]) : p := h
theorem u_85 (e : E) (h : Hid E → p := by intro e; (repeat' (first | refine W_seq ?_ | refine W_skip ?_ | refine W_block ?_ | refine W_exit ?_ | refine pick_pos rfl ?_ | refine pick_neg rfl ?_ | ((first | refine W_regP fun K hK => ?_ | refine W_regPD fun K hK => ?_ | refine W_ret ?_); simp [Fin, e.o, strsD_len, strs_get]) | (with_reducible refine hK _ ?_; clear hK K) | (with_reducible refine goL_split (fun h => ?_) (fun h => ?_) <;> first | (exfalso; simp at h; first | done | omega | contradiction) | ((try simp at h); simp [e.o, strsD_len, strs_get])) | with_reducible refine And.intro ?_ ?_ | with_reducible exact okay_rfl rfl | with_reducible assumption | (refine W_cond rfl (fun h => ?_) (fun h => ?_) <;> first | (exfalso; simp at h; first | done | omega | contradiction) | (exfalso; simp_all; done) | (try simp at h)) | omega)); all_goals first | exact h0.o | exact h1.o | exact h2.o | exact h3.o) : p := h ⟨e⟩
theorem u_86 (h0 : q0) (h : Hid q0 → p := by intro h0; (simp [gc, closeN, liveA, gcV, gcO, renA, renAs, renO, namesAs, namesA, namesO, posn, strsD_len]); exact h0.o) : p := h ⟨h0⟩
theorem u_87 (h : p := by simp [gc, closeN, liveA, gcV, gcO, renA, renAs, renO, namesAs, namesA, namesO, posn]) : p := h
theorem u_88 (h : p := by simp [gc, closeN, liveA, gcV, gcO, renA, renAs, renO, namesAs, namesA, namesO, posn, rJob, rLease, rOwned, rToken, rUser, world0]) : p := h
theorem u_89 (e : E) (k : L) (h : Hid E → Hid L → p := by intro e k; (repeat' (first | refine W_seq ?_ | refine W_skip ?_ | refine W_block ?_ | refine W_exit ?_ | refine pick_pos rfl ?_ | refine pick_neg rfl ?_ | ((first | refine W_regP fun K hK => ?_ | refine W_regPD fun K hK => ?_ | refine W_ret ?_ | with_reducible refine callQ k.o.1 ?_ | with_reducible refine callQ k.o.2.1 ?_ | with_reducible refine callQ k.o.2.2.1 ?_ | with_reducible refine callQ k.o.2.2.2.1 ?_ | with_reducible refine callQ k.o.2.2.2.2.1 ?_ | with_reducible refine callQ k.o.2.2.2.2.2.1 ?_ | with_reducible refine callQ k.o.2.2.2.2.2.2.1 ?_ | with_reducible refine callQ k.o.2.2.2.2.2.2.2.1 ?_); simp [Fin, e.o, newL]) | (with_reducible refine hK _ ?_; clear hK K) | (with_reducible refine goL_split (fun h => ?_) (fun h => ?_) <;> first | (exfalso; simp at h; first | done | omega | contradiction) | ((try simp at h); simp [e.o, newL])) | with_reducible refine And.intro ?_ ?_ | with_reducible exact okay_rfl rfl | with_reducible assumption | (refine W_cond rfl (fun h => ?_) (fun h => ?_) <;> first | (exfalso; simp at h; first | done | omega | contradiction) | (exfalso; simp_all; done) | (try simp at h)) | omega)); all_goals first | exact h0.o | exact h1.o | exact h2.o | exact h3.o) : p := h ⟨e⟩ ⟨k⟩
theorem u_90 (e : E) (k : L) (h0 : q0) (h : Hid E → Hid L → Hid q0 → p := by intro e k; intro h0; exact u_89 e.o k.o) : p := h ⟨e⟩ ⟨k⟩ ⟨h0⟩
end
theorem wrap_id {n : Int} (h1 : -9223372036854775808 ≤ n) (h2 : n ≤ 9223372036854775807) : IntKind.i64.wrap n = n := by
 rw [IntKind.wrap_i64]; omega
theorem row_one {R : List (List D)} {i : Nat} (h : ∀ r, r ∈ R → r.length = 1) (hi : i < R.length) : ∃ d, R[i]? = some [d] := by
 have := h _ (List.getElem_mem hi)
 rw [List.length_eq_one_iff] at this
 obtain ⟨d, hd⟩ := this
 exact ⟨d, by rw [List.getElem?_eq_getElem hi, hd]⟩
theorem set_one {R : List (List D)} {i : Nat} {d : D} (h : ∀ r, r ∈ R → r.length = 1) : ∀ r, r ∈ R.set i [d] → r.length = 1 := by
 intro r hr
 rcases List.mem_or_eq_of_mem_set hr with h1 | h1
 ·exact h r h1
 ·subst h1; rfl
theorem take_set_succ {R : List (List D)} {i : Nat} {r : List D} (hi : i < R.length) : (R.set i r).take (i + 1) = R.take i ++ [r] := by
 rw [List.take_add_one, List.take_set_of_le (Nat.le_refl _)]
 simp [hi]
theorem bytesD_succ {a : List UInt8} {i : Nat} {x : UInt8} (ha : a[i]? = some x) : bytesD (a.take (i + 1)) = bytesD (a.take i) ++ [[.int .u8 x.toNat]] := by
 rw [List.take_add_one, ha]; simp [bytesD]
theorem ofBytes_bytesD (s : List UInt8) : ofBytes (bytesD s) = some s := by
 induction s with
 | nil => rfl
 | cons x s ih => simp [bytesD, ofBytes] at ih ⊢; exact ih
theorem strOf_bytesD (s : List UInt8) : strOf (.slc 1 (bytesD s)) = out (.d (.str s)) := by
 cases s with
 | nil => rfl
 | cons x s => simp only [strOf, ofBytes_bytesD]; simp [bytesD]
theorem strsD_succ {a : List (List UInt8)} {i : Nat} {x : (List UInt8)} (ha : a[i]? = some x) : strsD (a.take (i + 1)) = strsD (a.take i) ++ [[.str x]] := by
 rw [List.take_add_one, ha]; simp [strsD]
theorem l01In_ok (x lo hi : Int) : Valid PP GG 23 [.d (.int .i64 x), .d (.int .i64 lo), .d (.int .i64 hi)] (.d (.bool (decide (lo ≤ x) && decide (x ≤ hi)))) [none, none, none] := by
 refine cv Tryz.func23 [.d (.bool (decide (lo ≤ x) && decide (x ≤ hi)))] ?_
 refine u_1 ?_
 refine u_2 6 (decide (lo ≤ x) && decide (x ≤ hi)) ?_
 exact u_3
theorem within_ok (x lo hi : Int) : Valid PP GG 34 [.d (.int .i64 x), .d (.int .i64 lo), .d (.int .i64 hi)] (.d (.bool (decide (lo ≤ x) && decide (x ≤ hi)))) [none, none, none] := by
 refine cv Tryz.func34 [.d (.bool (decide (lo ≤ x) && decide (x ≤ hi)))] ?_
 refine u_1 ?_
 refine u_2 6 (decide (lo ≤ x) && decide (x ≤ hi)) ?_
 exact u_3
def digs (n : Nat) : List UInt8 := if h : n = 0 then [] else digs (n / 10) ++ [UInt8.ofNat (48 + n % 10)]
termination_by n
decreasing_by omega
theorem u8_digit (n : Nat) : IntKind.u8.wrap (IntKind.i64.wrap (48 + ((n % 10 : Nat) : Int))) = ((UInt8.ofNat (48 + n % 10)).toNat : Int) := by
 rw [wrap_id (by omega) (by omega), IntKind.wrap_u8, UInt8.toNat_ofNat']
 have : (48 + n % 10) % 2 ^ 8 = 48 + n % 10 := by omega
 rw [this]; omega
theorem bytes_one (v : UInt8) : [[D.int .u8 v.toNat]] = bytesD [v] := rfl
theorem Itoa_ok [P10 GG] (n : Int) (h : int64 n) : Valid PP GG 171 [.d (.int .i64 n)] (.d (.str (Lib.itoa n))) [none] := by
 refine lib_int (rv := .string ⟨(Lib.itoa n).toArray⟩) ⟨Tryz.f171, Tryz.func171, by kernel_rfl, by kernel_rfl⟩ (fun w Fz => .str _) fun w hG => ?_
 refine Go.Proofs.YtoomonfpedjgoaaGreatDoor.Tryz.strconv_Itoa n h.1 h.2 w ?_
 obtain ⟨ob, h1, h2⟩ := hG 1 _ P10.h
 unfold Lib.TabIs World.var?
 rw [show Tryz.prog.globalNamed "internal/strconv.uint64pow10" = some 1 by kernel_rfl]
 simp only [Option.bind_some, h1]
 cases ob with
 | cells cs t fr => simp only [pow10Cells] at h2; rw [h2]
 | _ => exact h2.elim
theorem digs_dec : ∀ n, 0 < n → digs n = Lib.decDigits n := by
 intro n
 induction n using Nat.strongRecOn with
 | _ n ih =>
  intro h
  rw [digs, dif_neg (by omega), Lib.decDigits]
  by_cases hn : n < 10
  ·rw [dif_pos hn]
   have e : n / 10 = 0 := by omega
   rw [e, digs, dif_pos rfl, Nat.mod_eq_of_lt hn]; rfl
  ·rw [dif_neg hn, ih (n / 10) (by omega) (by omega)]
theorem digs_len2 {n : Nat} (h : n ≤ 9223372036854775808) : (digs n).length ≤ 21 := by
 by_cases h0 : n = 0
 ·subst h0; rw [digs]; simp
 ·rw [digs_dec n (by omega)]
  by_cases h1 : n ≤ 9223372036854775807
  ·have := Lib.itoa_length_le n (by omega) (by omega)
   rw [Lib.itoa_nonneg] at this
   exact this
  ·have := Lib.itoa_length_le (-(n : Int)) (by omega) (by omega)
   rw [Lib.itoa_neg n (by omega)] at this
   simp at this; omega
theorem l01Num_ok (x : Int) (hx : int64 x) : Valid PP GG 140 [.d (.int .i64 x)] (.d (.str (Lib.itoa x))) [none] := by
 refine cv Tryz.func140 [.d (.str (Lib.itoa x))] ?_
 unfold int64 at hx
 refine u_1 ?_
 refine u_4 ?_
 refine W_cond rfl (fun h => W_seq ?_) (fun h => W_skip ?_)
 ·simp at h
  subst h
  refine u_5 ?_
  have : Lib.itoa 0 = [48] := by rw [show (0 : Int) = ((0 : Nat) : Int) from rfl, Lib.itoa_nonneg, Lib.decDigits]; rfl
  exact u_6
 simp at h
 obtain ⟨ng, hng⟩ : ∃ ng, ng = decide (x < 0) := ⟨_, rfl⟩
 refine u_1 ?_
 refine W_seq (?_)
 apply W_regS
 ·intro K hK
  simp [← hng]
  repeat' (first | with_reducible exact hK | (with_reducible refine goL_split (fun _ => ?_) (fun _ => ?_) <;> simp [← hng]) | with_reducible refine And.intro ?_ ?_ | with_reducible exact okay_rfl rfl | with_reducible assumption | omega)
 refine W_seq (?_)
 refine W_block (W_loop (fun n st => ∃ (m : Nat) (out : List UInt8), n = m ∧ digs m ++ out = digs x.natAbs ∧ m ≤ x.natAbs ∧
  st = ⟨[], [(0, .d (.int .i64 (if ng then -(m : Int) else m))), (3, .d (.str out)), (4, .d (.bool ng))], [], 0⟩) _ ⟨x.natAbs, [], rfl, by simp, by omega, by
   simp [gc, closeN, liveA, gcV, gcO, renA, namesAs, namesA, ← hng]; cases ng <;> simp at hng ⊢ <;> omega⟩ ?_)
 rintro m st ⟨m', out, rfl, he, hm, rfl⟩
 have hl : out.length ≤ 21 := by
  have h1 := digs_len2 (n := x.natAbs) (by omega)
  rw [← he] at h1
  simp at h1
  omega
 refine u_4 ?_
 refine W_cond rfl (fun h2 => W_skip ?_) (fun h2 => W_exit ?_)
 ·have hm0 : m ≠ 0 := by rintro rfl; cases ng <;> simp at h2
  have hd := u8_digit m
  obtain ⟨r, hr⟩ : ∃ r : Nat, r = m % 10 := ⟨_, rfl⟩
  obtain ⟨q, hqq⟩ : ∃ q : Nat, q = m / 10 := ⟨_, rfl⟩
  rw [← hr] at hd
  obtain ⟨v, hv⟩ : ∃ v, v = UInt8.ofNat (48 + r) := ⟨_, rfl⟩
  rw [← hv] at hd
  have fin : digs q ++ (v :: out) = digs x.natAbs := by
   rw [← he, digs.eq_1 m, dif_neg hm0, ← hqq, ← hr, ← hv]
   simp
  cases ng with
  | false =>
   have ht : ((m : Int).tmod 10) = (r : Int) := by rw [hr]; rfl
   have hq : IntKind.i64.wrap ((m : Int).tdiv 10) = (q : Int) := by
    have : (m : Int).tdiv 10 = ((m / 10 : Nat) : Int) := rfl
    rw [this, ← hqq]; exact wrap_id (by omega) (by omega)
   simp at hq
   refine W_block (W_seq ?_)
   refine u_7 ht ?_
   refine u_4 ?_
   refine W_cond rfl (fun h3 => ?_) (fun h3 => W_skip ?_)
   ·simp at h3; omega
   refine u_8 hd ?_
   refine u_7 hq ?_
   exact ⟨q, by omega, q, v :: out, rfl, fin, by omega, by simp [gc, closeN, liveA, gcV, gcO, renA, namesAs, namesA]⟩
  | true =>
   have ht : ((-(m : Int)).tmod 10) = -(r : Int) := by rw [Int.neg_tmod, hr]; rfl
   have hn : IntKind.i64.wrap (0 - -(r : Int)) = (r : Int) := by rw [wrap_id (by omega) (by omega)]; omega
   have hq : IntKind.i64.wrap ((-(m : Int)).tdiv 10) = -(q : Int) := by
    have : (-(m : Int)).tdiv 10 = -((m / 10 : Nat) : Int) := by rw [Int.neg_tdiv]; rfl
    rw [this, ← hqq]; exact wrap_id (by omega) (by omega)
   simp at hn hq
   refine W_block (W_seq ?_)
   refine u_7 ht ?_
   refine u_4 ?_
   refine W_cond rfl (fun h3 => ?_) (fun h3 => W_skip ?_)
   ·refine u_7 hn ?_
    refine u_8 hd ?_
    refine u_7 hq ?_
    exact ⟨q, by omega, q, v :: out, rfl, fin, by omega, by simp [gc, closeN, liveA, gcV, gcO, renA, namesAs, namesA]⟩
   have hn2 : -(r : Int) = (r : Int) := by simp at h3; omega
   refine u_8 (Y2 hn2 hd) ?_
   refine u_7 hq ?_
   exact ⟨q, by omega, q, v :: out, rfl, fin, by omega, by simp [gc, closeN, liveA, gcV, gcO, renA, namesAs, namesA]⟩
 ·have hm0 : m = 0 := by cases ng <;> simp at h2 <;> omega
  subst hm0
  rw [if_pos rfl]
  have hz : digs 0 = [] := by rw [digs]; simp
  rw [hz, List.nil_append] at he
  refine u_4 ?_
  refine W_cond rfl (fun h3 => W_seq ?_) (fun h3 => W_skip ?_)
  ·subst h3
   apply W_regS
   ·intro K hK
    simp [maxStr]
    repeat' (first | with_reducible exact hK | (with_reducible refine goL_split (fun _ => ?_) (fun _ => ?_) <;> simp [maxStr]) | with_reducible refine And.intro ?_ ?_ | with_reducible exact okay_rfl rfl | with_reducible assumption | omega)
   have : Lib.itoa x = 45 :: out := by
    simp at hng
    unfold Lib.itoa
    rw [if_pos (by omega), he, digs_dec _ (by omega)]
   exact u_6
  subst h3
  refine u_1 ?_
  have : Lib.itoa x = out := by
   simp at hng
   unfold Lib.itoa
   rw [if_neg (by omega), he, digs_dec _ (by omega)]
   congr 1
   omega
  exact u_6
def dA (l : List UInt8) : Nat := l.foldl (fun p b => (131 * p + b.toNat + 1) % 2147483647) 7
def dB (l : List UInt8) : Nat := l.foldl (fun p b => (137 * p + b.toNat + 3) % 2147483629) 11
def digN (l : List UInt8) : Int := 2147483648 * (dA l : Int) + (dB l : Int)
theorem dA_lt (l : List UInt8) : dA l < 2147483647 := by
 rcases List.eq_nil_or_concat l with rfl | ⟨r, x, rfl⟩
 ·simp [dA]
 ·simp only [dA, List.concat_eq_append, List.foldl_append, List.foldl_cons, List.foldl_nil]; omega
theorem dB_lt (l : List UInt8) : dB l < 2147483629 := by
 rcases List.eq_nil_or_concat l with rfl | ⟨r, x, rfl⟩
 ·simp [dB]
 ·simp only [dB, List.concat_eq_append, List.foldl_append, List.foldl_cons, List.foldl_nil]; omega
theorem dA_succ {l : List UInt8} {i : Nat} {x : UInt8} (h : l[i]? = some x) : dA (l.take (i + 1)) = (131 * dA (l.take i) + x.toNat + 1) % 2147483647 := by
 rw [List.take_add_one, h]; simp [dA, List.foldl_append]
theorem dB_succ {l : List UInt8} {i : Nat} {x : UInt8} (h : l[i]? = some x) : dB (l.take (i + 1)) = (137 * dB (l.take i) + x.toNat + 3) % 2147483629 := by
 rw [List.take_add_one, h]; simp [dB, List.foldl_append]
theorem stepA (p : Nat) (x : UInt8) (hp : p < 2147483647) : (IntKind.i64.wrap (IntKind.i64.wrap (IntKind.i64.wrap (131 * (p : Int)) + IntKind.i64.wrap (x.toNat : Int)) + 1)).tmod 2147483647 = (((131 * p + x.toNat + 1) % 2147483647 : Nat) : Int) := by
 have hx := x.toNat_lt
 rw [wrap_id (n := 131 * (p : Int)) (by omega) (by omega), wrap_id (n := (x.toNat : Int)) (by omega) (by omega), wrap_id (n := 131 * (p : Int) + x.toNat) (by omega) (by omega), wrap_id (by omega) (by omega)]
 rw [Int.tmod_eq_emod_of_nonneg (by omega)]
 omega
theorem stepB (p : Nat) (x : UInt8) (hp : p < 2147483629) : (IntKind.i64.wrap (IntKind.i64.wrap (IntKind.i64.wrap (137 * (p : Int)) + IntKind.i64.wrap (x.toNat : Int)) + 3)).tmod 2147483629 = (((137 * p + x.toNat + 3) % 2147483629 : Nat) : Int) := by
 have hx := x.toNat_lt
 rw [wrap_id (n := 137 * (p : Int)) (by omega) (by omega), wrap_id (n := (x.toNat : Int)) (by omega) (by omega), wrap_id (n := 137 * (p : Int) + x.toNat) (by omega) (by omega), wrap_id (by omega) (by omega)]
 rw [Int.tmod_eq_emod_of_nonneg (by omega)]
 omega
theorem digFin (l : List UInt8) : IntKind.i64.wrap (IntKind.i64.wrap (2147483648 * (dA l : Int)) + (dB l : Int)) = digN l := by
 have := dA_lt l
 have := dB_lt l
 rw [wrap_id (n := 2147483648 * (dA l : Int)) (by omega) (by omega), wrap_id (by omega) (by omega)]; rfl
theorem Digest_ok (a : List UInt8) (ha : a.length ≤ 140737488355328) : Valid PP GG 141 [.d (.slc 1 (bytesD a))] (.d (.int .i64 (digN a))) [none] := by
 refine cv Tryz.func141 [.d (.int .i64 (digN a))] ?_
 refine u_1 ?_
 refine u_1 ?_
 refine u_1 ?_
 refine u_4 ?_
 refine W_block (W_loop (fun n st => ∃ (i : Nat), n = a.length - i ∧ i ≤ a.length ∧
  st = ⟨[], [(0, .d (.slc 1 (bytesD a))), (3, .d (.int .i64 (dA (a.take i)))), (4, .d (.int .i64 (dB (a.take i)))), (5, .d (.int .i64 i))], [], 0⟩) _ ⟨0, rfl, by omega, rfl⟩ ?_)
 rintro n st ⟨i, rfl, hi, rfl⟩
 refine u_4 ?_
 refine W_cond rfl (fun h => W_skip ?_) (fun h => W_exit ?_)
 ·simp at h
  have hx := List.getElem?_eq_getElem h
  generalize a[i] = x at hx
  have sA := stepA _ x (dA_lt (a.take i))
  have sB := stepB _ x (dB_lt (a.take i))
  rw [← dA_succ hx] at sA
  rw [← dB_succ hx] at sB
  refine W_seq (W_block (W_seq ?_))
  apply W_regS
  ·intro K hK
   simp [hx, sA]
   repeat' (first | with_reducible exact hK | (with_reducible refine goL_split (fun _ => ?_) (fun _ => ?_) <;> simp [hx, sA]) | with_reducible refine And.intro ?_ ?_ | with_reducible exact okay_rfl rfl | with_reducible assumption | omega)
  refine u_9 hx ?_
  refine u_5 ?_
  exact ⟨a.length - (i + 1), by omega, i + 1, rfl, h, by
   simp [gc, closeN, liveA, gcV, gcO, renA, namesAs, namesA]
   rw [wrap_id (by omega) (by omega)]⟩
 ·simp at h
  rw [if_pos rfl]
  refine u_10 ?_
  exact u_3
theorem digest_ok (a : List UInt8) (ha : a.length ≤ 140737488355328) : Valid PP GG 172 [.d (.slc 1 (bytesD a))] (.d (.int .i64 (digN a))) [none] := by
 refine cv Tryz.func172 [.d (.int .i64 (digN a))] ?_
 refine u_1 ?_
 refine u_1 ?_
 refine u_4 ?_
 refine W_block (W_loop (fun n st => ∃ (i : Nat), n = a.length - i ∧ i ≤ a.length ∧
  st = ⟨[], [(3, .d (.int .i64 (dA (a.take i)))), (4, .d (.int .i64 (dB (a.take i)))), (7, .d (.slc 1 (bytesD a))), (8, .d (.int .i64 a.length)), (9, .d (.int .i64 i))], [], 0⟩) _ ⟨0, rfl, by omega, rfl⟩ ?_)
 rintro n st ⟨i, rfl, hi, rfl⟩
 refine u_1 ?_
 refine W_seq (?_)
 refine W_cond rfl (fun h => W_skip ?_) (fun h => W_exit ?_)
 ·simp at h
  have hx := List.getElem?_eq_getElem h
  generalize a[i] = x at hx
  have sA := stepA _ x (dA_lt (a.take i))
  have sB := stepB _ x (dB_lt (a.take i))
  rw [← dA_succ hx] at sA
  rw [← dB_succ hx] at sB
  refine W_seq (W_block (W_seq ?_))
  refine u_7 hx ?_
  refine W_seq (?_)
  apply W_regS
  ·intro K hK
   simp [hx, sA]
   repeat' (first | with_reducible exact hK | (with_reducible refine goL_split (fun _ => ?_) (fun _ => ?_) <;> simp [hx, sA]) | with_reducible refine And.intro ?_ ?_ | with_reducible exact okay_rfl rfl | with_reducible assumption | omega)
  refine u_9 hx ?_
  refine u_5 ?_
  exact ⟨a.length - (i + 1), by omega, i + 1, rfl, h, by
   simp [gc, closeN, liveA, gcV, gcO, renA, namesAs, namesA]
   rw [wrap_id (by omega) (by omega)]⟩
 ·simp at h
  rw [if_pos rfl]
  refine u_10 ?_
  exact u_3
theorem u8_all {p : UInt8 → Prop} (h : ∀ n : _root_.Fin 256, p (UInt8.ofNat n.val)) (x : UInt8) : p x := by
 have := h ⟨x.toNat, x.toNat_lt⟩
 simpa using this
def sumBy {α : Type} (f : α → Nat) : List α → Nat
 | [] => 0
 | x :: r => f x + sumBy f r
theorem drop_get {α : Type} {a : List α} {i : Nat} {x : α} (h : a[i]? = some x) : a.drop i = x :: a.drop (i + 1) := by
 obtain ⟨h1, rfl⟩ := List.getElem?_eq_some_iff.1 h
 exact List.drop_eq_getElem_cons h1
def nameB (b : UInt8) : Bool := decide (97 ≤ b.toNat ∧ b.toNat ≤ 122 ∨ 48 ≤ b.toNat ∧ b.toNat ≤ 57)
def segB (b : UInt8) : Bool := decide ((97 ≤ b.toNat ∧ b.toNat ≤ 122 ∨ 48 ≤ b.toNat ∧ b.toNat ≤ 57) ∨ b.toNat = 45)
def nameOk (s : List UInt8) : Bool := decide (1 ≤ s.length ∧ s.length ≤ 12) && s.all nameB
def segOk (s : List UInt8) : Bool := decide (1 ≤ s.length ∧ s.length ≤ 16) && s.all segB
def headCons (b : UInt8) : List (List UInt8) → List (List UInt8)
 | [] => []
 | p :: ps => (b :: p) :: ps
def headApp (c : List UInt8) : List (List UInt8) → List (List UInt8)
 | [] => []
 | p :: ps => (c ++ p) :: ps
def cutAt (c : UInt8) : List UInt8 → List (List UInt8)
 | [] => [[]]
 | b :: r => if b = c then [] :: cutAt c r else headCons b (cutAt c r)
theorem cutAt_ne (c : UInt8) (s : List UInt8) : ∃ p ps, cutAt c s = p :: ps := by
 induction s with
 | nil => exact ⟨_, _, rfl⟩
 | cons b r ih =>
  obtain ⟨p, ps, h⟩ := ih
  unfold cutAt
  split
  ·exact ⟨_, _, rfl⟩
  ·rw [h]; exact ⟨_, _, rfl⟩
theorem headApp_nil (c : UInt8) (s : List UInt8) : headApp [] (cutAt c s) = cutAt c s := by
 obtain ⟨p, ps, h⟩ := cutAt_ne c s
 rw [h]; rfl
theorem headApp_hit (c : UInt8) (cur r : List UInt8) : headApp cur (cutAt c (c :: r)) = cur :: headApp [] (cutAt c r) := by
 rw [headApp_nil, cutAt, if_pos rfl]; simp [headApp]
theorem headApp_miss {c b : UInt8} (h : b ≠ c) (cur r : List UInt8) : headApp cur (cutAt c (b :: r)) = headApp (cur ++ [b]) (cutAt c r) := by
 obtain ⟨p, ps, e⟩ := cutAt_ne c r
 rw [cutAt, if_neg h, e]; simp [headCons, headApp]
theorem cutAt_len (c : UInt8) (s : List UInt8) : (cutAt c s).length ≤ s.length + 1 := by
 induction s with
 | nil => simp [cutAt]
 | cons b r ih =>
  unfold cutAt
  split
  ·simp; exact ih
  ·obtain ⟨p, ps, e⟩ := cutAt_ne c r
   rw [e] at ih ⊢
   simp [headCons] at ih ⊢; omega
theorem cutAt_mem {c : UInt8} : ∀ (s : List UInt8) {p : List UInt8}, p ∈ cutAt c s → p.length ≤ s.length := by
 intro s
 induction s with
 | nil => intro p h; simp [cutAt] at h; subst h; simp
 | cons b r ih =>
  intro p h
  unfold cutAt at h
  split at h
  ·rcases List.mem_cons.1 h with rfl | h
   ·simp
   ·have := ih h; simp; omega
  ·obtain ⟨q, qs, e⟩ := cutAt_ne c r
   rw [e] at h ih
   simp only [headCons] at h
   rcases List.mem_cons.1 h with rfl | h
   ·have := ih (List.mem_cons_self ..); simp; omega
   ·have := ih (List.mem_cons_of_mem _ h); simp; omega
theorem cutAt_all {c : UInt8} {P : UInt8 → Prop} (hc : P c) : ∀ (s : List UInt8), (∀ p, p ∈ cutAt c s → ∀ b, b ∈ p → P b) → ∀ b, b ∈ s → P b := by
 intro s
 induction s with
 | nil => intro _ b h; simp at h
 | cons x r ih =>
  intro h b hb
  unfold cutAt at h
  split at h
  ·rename_i e
   rcases List.mem_cons.1 hb with rfl | hb
   ·rw [e]; exact hc
   ·exact ih (fun p hp => h p (by simp [hp])) b hb
  ·obtain ⟨q, qs, e⟩ := cutAt_ne c r
   rw [e] at h ih
   simp only [headCons] at h
   rcases List.mem_cons.1 hb with rfl | hb
   ·exact h _ (List.mem_cons_self ..) _ (by simp)
   ·refine ih (fun p hp b' hb' => ?_) b hb
    rcases List.mem_cons.1 hp with rfl | hp
    ·exact h _ (List.mem_cons_self ..) b' (by simp [hb'])
    ·exact h p (by simp [hp]) b' hb'
def segAt (l : List (List UInt8)) (i : Nat) : Bool := match l[i]? with | some s => segOk s || (s == [43]) || (s == [42] && decide (i + 1 = l.length)) | none => true
def globOk (s : List UInt8) : Bool := decide (s.length ≤ 120) && ((List.range (cutAt 47 s).length).all (segAt (cutAt 47 s)) && decide ((cutAt 47 s).length ≤ 8))
def starB (b : UInt8) : Bool := decide (b.toNat = 43 ∨ b.toNat = 42)
def pathOk (s : List UInt8) : Bool := globOk s && !s.any starB
theorem globOk_ascii {s : List UInt8} (h : globOk s = true) : ∀ b, b ∈ s → b.toNat < 128 := by
 simp only [globOk, Bool.and_eq_true, List.all_eq_true, List.mem_range] at h
 refine cutAt_all (c := 47) (P := fun b => b.toNat < 128) (by decide) s fun p hp b hb => ?_
 obtain ⟨i, hi, he⟩ := List.mem_iff_getElem.1 hp
 have := h.2.1 i hi
 unfold segAt at this
 rw [List.getElem?_eq_getElem hi, he] at this
 simp only [Bool.or_eq_true, Bool.and_eq_true, beq_iff_eq] at this
 rcases this with (h1 | h1) | h1
 ·unfold segOk at h1
  simp only [Bool.and_eq_true, List.all_eq_true] at h1
  have := h1.2 b hb
  unfold segB at this
  simp at this
  omega
 ·subst h1; simp at hb; subst hb; decide
 ·obtain ⟨h1, _⟩ := h1; subst h1; simp at hb; subst hb; decide
theorem all_no {α : Type} {p : α → Bool} {l : List α} {i : Nat} {x : α} (h : l[i]? = some x) (hx : p x = false) : l.all p = false := by
 rw [List.all_eq_false]; exact ⟨x, List.mem_of_getElem? h, by simp [hx]⟩
theorem any_yes {α : Type} {p : α → Bool} {l : List α} {i : Nat} {x : α} (h : l[i]? = some x) (hx : p x = true) : l.any p = true := by
 rw [List.any_eq_true]; exact ⟨x, List.mem_of_getElem? h, hx⟩
theorem take_all {α : Type} {p : α → Prop} {l : List α} {i : Nat} {x : α} (ha : l[i]? = some x) (hn : ∀ y, y ∈ l.take i → p y) (hx : p x) : ∀ y, y ∈ l.take (i + 1) → p y := by
 intro y hy
 rw [List.take_add_one, ha] at hy
 rcases List.mem_append.1 hy with hy | hy
 ·exact hn y hy
 ·simp at hy; subst hy; exact hx
theorem getD_of {s : List UInt8} {i : Nat} {x : UInt8} (h : s[i]? = some x) : s[i]?.getD 0 = x := by rw [h]; rfl
theorem l01Name_ok (s : List UInt8) (hs : s.length ≤ 281474976710656) : Valid PP GG 29 [.d (.str s)] (.d (.bool (nameOk s))) [none] := by
 refine cv Tryz.func29 [.d (.bool (nameOk s))] ?_
 refine u_1 ?_
 refine u_4 ?_
 refine W_block (W_loop (fun n st => ∃ i : Nat, n = s.length - i ∧ i ≤ s.length ∧ (∀ y, y ∈ s.take i → nameB y = true) ∧ st = ⟨[], [(0, .d (.str s)), (3, .d (.int .i64 i))], [], 0⟩) _ ⟨0, rfl, by omega, fun y h => by simp at h, rfl⟩ ?_)
 rintro n st ⟨i, rfl, hi, hn, rfl⟩
 refine u_4 ?_
 refine W_cond rfl (fun h => W_skip ?_) (fun h => W_exit ?_)
 ·simp at h
  have ha := List.getElem?_eq_getElem h
  generalize s[i] = x at ha
  have hd := getD_of ha
  refine W_seq (W_block (W_seq ?_))
  refine u_7 hd ?_
  obtain ⟨v, hv⟩ : ∃ v, x.toNat = v := ⟨_, rfl⟩
  have hnb : nameB x = decide (97 ≤ v ∧ v ≤ 122 ∨ 48 ≤ v ∧ v ≤ 57) := by rw [← hv]; rfl
  rw [hv]
  refine u_2 29 (decide (¬ (97 ≤ v ∧ v ≤ 122 ∨ 48 ≤ v ∧ v ≤ 57))) ?_
  refine W_cond rfl (fun h2 => W_seq ?_) (fun h2 => W_skip ?_)
  ·rw [h2]
   refine u_5 ?_
   have : nameOk s = false := by
    unfold nameOk
    rw [all_no ha (by rw [hnb]; exact decide_eq_false (of_decide_eq_true h2)), Bool.and_false]
   exact u_6
  rw [h2]
  refine u_5 ?_
  exact ⟨s.length - (i + 1), by omega, i + 1, rfl, h, take_all ha hn (by rw [hnb]; exact decide_eq_true (Decidable.not_not.1 (of_decide_eq_false h2))), by simp [gc, closeN, liveA, gcV, gcO, renA, namesAs, namesA]; rw [wrap_id (by omega) (by omega)]⟩
 ·simp at h
  rw [if_pos rfl]
  rw [List.take_of_length_le h] at hn
  refine u_11 (Z1 (l01In_ok s.length 1 12)) ?_
  have : (decide (1 ≤ (s.length : Int)) && decide ((s.length : Int) ≤ 12)) = nameOk s := by
   unfold nameOk
   rw [List.all_eq_true.2 hn, Bool.and_true, Bool.eq_iff_iff]
   simp
   omega
  exact u_6
theorem l01Segment_ok (s : List UInt8) (hs : s.length ≤ 281474976710656) : Valid PP GG 180 [.d (.str s)] (.d (.bool (segOk s))) [none] := by
 refine cv Tryz.func180 [.d (.bool (segOk s))] ?_
 have cl := l01In_ok (GG := GG) s.length 1 16
 obtain ⟨p, hp⟩ : ∃ p, (decide (1 ≤ (s.length : Int)) && decide ((s.length : Int) ≤ 16)) = p := ⟨_, rfl⟩
 have hp2 : segOk s = (p && s.all segB) := by
  unfold segOk
  rw [← hp]
  congr 1
  rw [Bool.eq_iff_iff]; simp; omega
 rw [hp] at cl
 refine u_1 ?_
 refine u_12 (Z1 cl) ?_
 refine W_cond rfl (fun h => W_seq ?_) (fun h => W_skip ?_)
 ·simp at h
  subst h
  refine u_5 ?_
  exact u_13 hp2
 simp at h
 subst h
 refine u_4 ?_
 refine W_block (W_loop (fun n st => ∃ i : Nat, n = s.length - i ∧ i ≤ s.length ∧ (∀ y, y ∈ s.take i → segB y = true) ∧ st = ⟨[], [(0, .d (.str s)), (3, .d (.int .i64 i))], [], 0⟩) _ ⟨0, rfl, by omega, fun y h => by simp at h, rfl⟩ ?_)
 rintro n st ⟨i, rfl, hi, hn, rfl⟩
 refine u_4 ?_
 refine W_cond rfl (fun h => W_skip ?_) (fun h => W_exit ?_)
 ·simp at h
  have ha := List.getElem?_eq_getElem h
  generalize s[i] = x at ha
  have hd := getD_of ha
  refine W_seq (W_block (W_seq ?_))
  refine u_7 hd ?_
  obtain ⟨v, hv⟩ : ∃ v, x.toNat = v := ⟨_, rfl⟩
  have hnb : segB x = decide ((97 ≤ v ∧ v ≤ 122 ∨ 48 ≤ v ∧ v ≤ 57) ∨ v = 45) := by rw [← hv]; rfl
  rw [hv]
  refine u_2 37 (decide (¬ ((97 ≤ v ∧ v ≤ 122 ∨ 48 ≤ v ∧ v ≤ 57) ∨ v = 45))) ?_
  refine W_cond rfl (fun h2 => W_seq ?_) (fun h2 => W_skip ?_)
  ·rw [h2]
   refine u_5 ?_
   have : segOk s = false := by
    rw [hp2, all_no ha (by rw [hnb]; exact decide_eq_false (of_decide_eq_true h2)), Bool.and_false]
   exact u_6
  rw [h2]
  refine u_5 ?_
  exact ⟨s.length - (i + 1), by omega, i + 1, rfl, h, take_all ha hn (by rw [hnb]; exact decide_eq_true (Decidable.not_not.1 (of_decide_eq_false h2))), by simp [gc, closeN, liveA, gcV, gcO, renA, namesAs, namesA]; rw [wrap_id (by omega) (by omega)]⟩
 ·simp at h
  rw [if_pos rfl]
  rw [List.take_of_length_le h] at hn
  refine u_1 ?_
  have : segOk s = true := by rw [hp2, List.all_eq_true.2 hn]; rfl
  exact u_6
theorem take_drop_snoc {s : List UInt8} {a i : Nat} {x : UInt8} (h : s[i]? = some x) (ha : a ≤ i) : (s.take (i + 1)).drop a = (s.take i).drop a ++ [x] := by
 have hl := (List.getElem?_eq_some_iff.1 h).1
 rw [List.take_add_one, h, List.drop_append_of_le_length (by rw [List.length_take]; omega)]; rfl
theorem l01Parts_ok (s : List UInt8) (c : UInt8) (hs : s.length ≤ 4194304) : Valid PP GG 179 [.d (.str s), .d (.int .u8 c.toNat)] (.own 0 1 (strsD (cutAt c s))) [none, none] := by
 refine cv Tryz.func179 [.own 0 1 (strsD (cutAt c s))] ?_
 refine u_1 ?_
 refine u_14 ?_
 refine u_1 ?_
 refine u_4 ?_
 refine W_block (W_loop (fun n st => ∃ (i a : Nat) (o : List (List UInt8)), n = s.length + 1 - i ∧ o.length ≤ i ∧ a ≤ i ∧ (i ≤ s.length ∧ cutAt c s = o ++ headApp ((s.take i).drop a) (cutAt c (s.drop i)) ∨ i = s.length + 1 ∧ cutAt c s = o) ∧
  st = ⟨[], [(0, .d (.str s)), (1, .d (.int .u8 c.toNat)), (5, .sl 0), (6, .d (.int .i64 a)), (7, .d (.int .i64 i))], [(0, .arr 0 0 1 (strsD o))], 1⟩) _ ⟨0, 0, [], rfl, by simp, by omega, .inl ⟨by omega, by simp [headApp_nil]⟩, rfl⟩ ?_)
 rintro n st ⟨i, a, o, rfl, hol, hai, hinv, rfl⟩
 refine u_4 ?_
 refine W_cond rfl (fun h => W_skip ?_) (fun h => W_exit ?_)
 ·rw [h]
  simp at h
  obtain ⟨_, hcut⟩ := hinv.resolve_right (by omega)
  clear hinv
  have hw : IntKind.i64.wrap ((i : Int) + 1) = ((i + 1 : Nat) : Int) := by rw [wrap_id (by omega) (by omega)]; omega
  have t1 : ((a : Int)).toNat = a := by omega
  have t2 : ((i : Int)).toNat = i := by omega
  refine W_seq (W_block (W_seq ?_))
  by_cases hend : i = s.length
  ·subst hend
   refine W_regB 25 (true) (fun K hK => ?_) ?_
   ·simp
    repeat' (first | exact hK _ _ (by clear hK; first | omega | (exact decide_eq_false (by omega)) | (exact decide_eq_true (by omega)) | (exact (decide_eq_true (by omega)).symm) | (exact (decide_eq_false (by omega)).symm) | (exact decide_eq_decide.2 (by omega)) | (simp only [← decide_not]; exact decide_eq_decide.2 (by omega)) | (simp [*]; done) | (simp [*]; omega) | (simp_all; done) | (simp_all; omega) | (rw [Bool.eq_iff_iff]; simp at *; omega)) | (with_reducible refine goL_split (fun _ => ?_) (fun _ => ?_) <;> simp) | with_reducible refine And.intro ?_ ?_ | with_reducible exact okay_rfl rfl | with_reducible assumption | omega)
   refine W_cond rfl (fun h2 => W_seq ?_) (fun h2 => ?_)
   rotate_left
   ·cases h2
   refine u_15 ?_
   refine u_7 hw ?_
   refine u_7 hw ?_
   refine ⟨s.length + 1 - (s.length + 1), by omega, s.length + 1, s.length + 1, o ++ [(s.take s.length).drop a], rfl, by simp; omega, by omega, .inr ⟨by omega, ?_⟩, by simp [gc, closeN, liveA, gcV, gcO, renA, renO, namesAs, namesA, namesO, posn, strsD]⟩
   rw [hcut, List.drop_length]
   simp [cutAt, headApp]
  ·have ha := List.getElem?_eq_getElem (show i < s.length by omega)
   generalize s[i]'_ = x at ha
   have hd := getD_of ha
   have hdr := drop_get ha
   by_cases hx : x = c
   ·subst hx
    refine u_16 hd 25 (true) ?_
    refine W_cond rfl (fun h2 => W_seq ?_) (fun h2 => ?_)
    rotate_left
    ·cases h2
    refine u_15 ?_
    refine u_7 hw ?_
    refine u_7 hw ?_
    refine ⟨s.length + 1 - (i + 1), by omega, i + 1, i + 1, o ++ [(s.take i).drop a], rfl, by simp; omega, by omega, .inl ⟨by omega, ?_⟩, by simp [gc, closeN, liveA, gcV, gcO, renA, renO, namesAs, namesA, namesO, posn, strsD]⟩
    have hnil : (s.take (i + 1)).drop (i + 1) = [] := List.drop_eq_nil_of_le (by rw [List.length_take]; omega)
    rw [hcut, hdr, headApp_hit, hnil]
    simp
   ·have hx2 : x.toNat ≠ c.toNat := fun e => hx (UInt8.toNat_inj.1 e)
    refine u_16 hd 25 (false) ?_
    refine W_cond rfl (fun h2 => ?_) (fun h2 => W_skip ?_)
    ·cases h2
    refine u_7 hw ?_
    refine ⟨s.length + 1 - (i + 1), by omega, i + 1, a, o, rfl, by omega, by omega, .inl ⟨by omega, ?_⟩, by simp [gc, closeN, liveA, gcV, gcO, renA, renO, namesAs, namesA, namesO, posn, strsD]⟩
    rw [hcut, hdr, headApp_miss hx, take_drop_snoc ha hai]
 ·simp at h
  obtain ⟨_, hcut⟩ := hinv.resolve_left (by omega)
  rw [if_pos rfl]
  subst hcut
  refine u_1 ?_
  exact u_3
theorem range_no {p : Nat → Bool} {n i : Nat} (h : i < n) (hp : p i = false) : (List.range n).all p = false := by
 rw [List.all_eq_false]; exact ⟨i, by simpa using h, by simp [hp]⟩
theorem s_GlobOk_ok (s : List UInt8) (hs : s.length ≤ 4194304) : Valid PP GG 154 [.d (.str s)] (.d (.bool (globOk s))) [none] := by
 refine cv Tryz.func154 [.d (.bool (globOk s))] ?_
 refine u_1 ?_
 refine u_4 ?_
 refine W_cond rfl (fun h => W_seq ?_) (fun h => W_skip ?_)
 ·simp at h
  refine u_5 ?_
  have : globOk s = false := by unfold globOk; rw [decide_eq_false (by omega)]; rfl
  exact u_6
 simp at h
 have cp : Valid PP GG 179 [.d (.str s), .d (.int .u8 47)] (.own 0 1 (strsD (cutAt 47 s))) [none, none] := l01Parts_ok s 47 hs
 have hg : globOk s = ((List.range (cutAt 47 s).length).all (segAt (cutAt 47 s)) && decide ((cutAt 47 s).length ≤ 8)) := by unfold globOk; rw [decide_eq_true (by omega)]; rfl
 have hml : ∀ x, x ∈ cutAt 47 s → x.length ≤ 4194304 := fun x hx => by have := cutAt_mem s hx; omega
 have hll := cutAt_len 47 s
 generalize cutAt 47 s = l at cp hg hml hll
 refine u_11 (Z1 cp) ?_
 refine u_4 ?_
 refine W_block (W_loop (fun n st => ∃ i : Nat, n = l.length - i ∧ i ≤ l.length ∧ (∀ j, j < i → segAt l j = true) ∧ st = ⟨[], [(3, .sl 0), (4, .d (.int .i64 i))], [(0, .arr 0 0 1 (strsD l))], 1⟩) _ ⟨0, rfl, by omega, fun j h => by omega, rfl⟩ ?_)
 rintro n st ⟨i, rfl, hi, hn, rfl⟩
 refine u_4 ?_
 refine W_cond rfl (fun h => W_skip ?_) (fun h => W_exit ?_)
 ·simp at h
  have ha := List.getElem?_eq_getElem h
  generalize l[i] = x at ha
  have ct := l01Segment_ok (GG := GG) x (by have := hml x (List.mem_of_getElem? ha); omega)
  have hseg : segAt l i = (segOk x || (x == [43]) || (x == [42] && decide (i + 1 = l.length))) := by unfold segAt; rw [ha]
  obtain ⟨p, hp⟩ : ∃ p, segOk x = p := ⟨_, rfl⟩
  obtain ⟨u, hu⟩ : ∃ p, (x == [43]) = p := ⟨_, rfl⟩
  obtain ⟨w, hw⟩ : ∃ p, (x == [42]) = p := ⟨_, rfl⟩
  rw [hp] at ct
  rw [hp, hu, hw] at hseg
  have hwl : IntKind.i64.wrap ((l.length : Int) - 1) = (l.length : Int) - 1 := wrap_id (by omega) (by omega)
  obtain ⟨z, hz⟩ : ∃ z, decide ((i : Int) = (l.length : Int) - 1) = z := ⟨_, rfl⟩
  have hz2 : decide (i + 1 = l.length) = z := by rw [← hz]; exact decide_eq_decide.2 (by omega)
  rw [hz2] at hseg
  have hzb : ((i : Int) == (l.length : Int) - 1) = z := by rw [← hz]; rfl
  refine W_seq (W_block (W_seq ?_))
  refine W_regB 43 (!(p || u || (w && z))) (fun K hK => ?_) ?_
  ·simp [ha, hu, hw, hwl, hzb]
   repeat' (first | exact hK _ _ (by clear hK; first | omega | (exact decide_eq_false (by omega)) | (exact decide_eq_true (by omega)) | (exact (decide_eq_true (by omega)).symm) | (exact (decide_eq_false (by omega)).symm) | (exact decide_eq_decide.2 (by omega)) | (simp only [← decide_not]; exact decide_eq_decide.2 (by omega)) | (simp [*]; done) | (simp [*]; omega) | (simp_all; done) | (simp_all; omega) | (rw [Bool.eq_iff_iff]; simp at *; omega)) | (with_reducible refine callQ (ct) ?_; simp [ha, hu, hw, hwl, hzb]) | (with_reducible refine goL_split (fun _ => ?_) (fun _ => ?_) <;> simp [ha, hu, hw, hwl, hzb]) | with_reducible refine And.intro ?_ ?_ | with_reducible exact okay_rfl rfl | with_reducible assumption | omega)
  refine W_cond rfl (fun h2 => W_seq ?_) (fun h2 => W_skip ?_)
  ·refine u_5 ?_
   have : globOk s = false := by
    rw [hg, range_no (i := i) (by omega) (by rw [hseg]; generalize (p || u || (w && z)) = q at h2 ⊢; cases q <;> simp_all), Bool.false_and]
   exact u_6
  refine u_5 ?_
  refine ⟨l.length - (i + 1), by omega, i + 1, rfl, h, fun j hj => ?_, by simp [gc, closeN, liveA, gcV, gcO, renA, renO, namesAs, namesA, namesO, posn]; rw [wrap_id (by omega) (by omega)]⟩
  by_cases e : j = i
  ·subst e; rw [hseg]; generalize (p || u || (w && z)) = q at h2 ⊢; cases q <;> simp_all
  ·exact hn j (by omega)
 ·simp at h
  rw [if_pos rfl]
  have hall : (List.range l.length).all (segAt l) = true := List.all_eq_true.2 fun j hj => hn j (by have := List.mem_range.1 hj; omega)
  refine u_1 ?_
  have : globOk s = decide ((l.length : Int) ≤ 8) := by rw [hg, hall, Bool.true_and]; exact decide_eq_decide.2 (by omega)
  exact u_6
theorem s_PathOk_ok (s : List UInt8) (hs : s.length ≤ 4194304) : Valid PP GG 121 [.d (.str s)] (.d (.bool (pathOk s))) [none] := by
 refine cv Tryz.func121 [.d (.bool (pathOk s))] ?_
 have cg := s_GlobOk_ok (GG := GG) s hs
 have hp : pathOk s = (globOk s && !s.any starB) := rfl
 generalize globOk s = g at cg hp
 refine u_1 ?_
 refine u_12 (Z1 cg) ?_
 refine W_cond rfl (fun h => W_seq ?_) (fun h => W_skip ?_)
 ·simp at h
  subst h
  refine u_5 ?_
  exact u_13 hp
 simp at h
 subst h
 refine u_4 ?_
 refine W_block (W_loop (fun n st => ∃ i : Nat, n = s.length - i ∧ i ≤ s.length ∧ (∀ y, y ∈ s.take i → starB y = false) ∧ st = ⟨[], [(0, .d (.str s)), (3, .d (.int .i64 i))], [], 0⟩) _ ⟨0, rfl, by omega, fun y h => by simp at h, rfl⟩ ?_)
 rintro n st ⟨i, rfl, hi, hn, rfl⟩
 refine u_4 ?_
 refine W_cond rfl (fun h => W_skip ?_) (fun h => W_exit ?_)
 ·simp at h
  have ha := List.getElem?_eq_getElem h
  generalize s[i] = x at ha
  have hd := getD_of ha
  obtain ⟨v, hv⟩ : ∃ v, x.toNat = v := ⟨_, rfl⟩
  have hnb : starB x = decide (v = 43 ∨ v = 42) := by rw [← hv]; rfl
  refine W_seq (W_block (W_seq ?_))
  refine u_16 (Y2 hd hv) 22 (decide (v = 43 ∨ v = 42)) ?_
  refine W_cond rfl (fun h2 => W_seq ?_) (fun h2 => W_skip ?_)
  ·rw [h2]
   refine u_5 ?_
   have : pathOk s = false := by rw [hp, any_yes ha (by rw [hnb]; exact h2)]; rfl
   exact u_6
  rw [h2]
  refine u_5 ?_
  exact ⟨s.length - (i + 1), by omega, i + 1, rfl, h, take_all ha hn (by rw [hnb]; exact h2), by simp [gc, closeN, liveA, gcV, gcO, renA, namesAs, namesA]; rw [wrap_id (by omega) (by omega)]⟩
 ·simp at h
  rw [if_pos rfl]
  rw [List.take_of_length_le h] at hn
  refine u_1 ?_
  have : pathOk s = true := by
   have e : s.any starB = false := by rw [List.any_eq_false]; intro y hy; simp [hn y hy]
   rw [hp, e]; rfl
  exact u_6
theorem IndexByte_ok (al : List UInt8) (b : UInt8) : Valid PP GG 155 [.d (.str al), .d (.int .u8 b.toNat)] (.d (.int .i64 (Lib.indexByte al b))) [none, none] := by
 refine lib_new [.str al, .int .u8 b.toNat] ⟨Tryz.f155, Tryz.func155, by kernel_rfl, by kernel_rfl⟩ fun w Fz args hG hFz hl hA => ?_
 have e : args = #[.string ⟨al.toArray⟩, .int .u8 b.toNat] := by
  refine args_eq (l := [.string ⟨al.toArray⟩, .int .u8 b.toNat]) hl fun i v hv => ?_
  match i, hv with
  | 0, hv => cases hv; exact shr_str (hA 0 _ rfl)
  | 1, hv => cases hv; exact shr_int (hA 1 _ rfl)
 subst e
 refine (Go.Proofs.YtoomonfpedjgoaaGreatDoor.Tryz.strings_IndexByte ⟨al.toArray⟩ b.toNat w).mono ?_
 rintro e w' ⟨rfl, rfl⟩
 have hb : ((b.toNat : Int).toNat).toUInt8 = b := by simp
 rw [hb]
 exact ⟨_, Fz, fun _ _ => False, rfl, ⟨rfl, rfl⟩, Nat.le_refl _, fun _ _ => rfl, fun _ _ h => h, fun b o h => ⟨.inl h, hFz b o h⟩, .d _ _ _ (.int _ _) fun _ _ h => h, fun _ _ h => h.elim⟩
theorem ContainsAny_ok (s c : List UInt8) (h1 : s.length < 4294967281) (h2 : c.length < 4294967281) (h3 : ∀ b, b ∈ s → b.toNat < 128) (h4 : ∀ b, b ∈ c → b.toNat < 128) :
  Valid PP GG 177 [.d (.str s), .d (.str c)] (.d (.bool (Lib.containsAny s c))) [none, none] := by
 refine lib_new [.str s, .str c] ⟨Tryz.f177, Tryz.func177, by kernel_rfl, by kernel_rfl⟩ fun w Fz args hG hFz hl hA => ?_
 have e : args = #[.string ⟨s.toArray⟩, .string ⟨c.toArray⟩] := by
  refine args_eq (l := [.string ⟨s.toArray⟩, .string ⟨c.toArray⟩]) hl fun i v hv => ?_
  match i, hv with
  | 0, hv => cases hv; exact shr_str (hA 0 _ rfl)
  | 1, hv => cases hv; exact shr_str (hA 1 _ rfl)
 subst e
 refine (Go.Proofs.YtoomonfpedjgoaaGreatDoor.Tryz.strings_ContainsAny_laid ⟨s.toArray⟩ ⟨c.toArray⟩ w h1 h2 (fun j b hb => h3 b (List.mem_of_getElem? hb)) (fun j b hb => h4 b (List.mem_of_getElem? hb))).mono ?_
 rintro e w' ⟨rfl, hb⟩
 exact ⟨_, Fz, fun _ _ => False, rfl, ⟨hb.os, hb.output⟩, hb.size, fun b h => hb.block b h, fun _ _ h => h, fun b o h => ⟨.inl h, Nat.lt_of_lt_of_le (hFz b o h) hb.size⟩, .d _ _ _ (.bool _) fun _ _ h => h, fun _ _ h => h.elim⟩
theorem splitK_cons {b c : UInt8} (h : b ≠ c) : ∀ (k : Nat) (l : List UInt8), Lib.splitK [c] 0 k (b :: l) = headCons b (Lib.splitK [c] 0 k l) := by
 intro k l
 cases k with
 | zero => rfl
 | succ k =>
  have hp : ([c] : List UInt8).isPrefixOf (b :: l) = false := by simp [List.isPrefixOf, Ne.symm h]
  have hix : Lib.index (b :: l) [c] = if Lib.index l [c] == -1 then -1 else Lib.index l [c] + 1 := by rw [Lib.index, hp]; simp
  unfold Lib.splitK
  rw [hix]
  have hge := Lib.index_ge l [c]
  by_cases hm : Lib.index l [c] = -1
  ·rw [hm]; simp [headCons]
  ·obtain ⟨j, hj⟩ : ∃ j : Nat, Lib.index l [c] = j := ⟨(Lib.index l [c]).toNat, by omega⟩
   have h1 : ¬ ((j : Int) == -1) = true := fun e => by have := beq_iff_eq.1 e; omega
   have h2 : ¬ ((j : Int) + 1 == -1) = true := fun e => by have := beq_iff_eq.1 e; omega
   rw [hj, if_neg h1, if_neg h1, if_neg h2]
   have e1 : ((j : Int) + 1).toNat = j + 1 := by omega
   simp [headCons, e1]
theorem split_cut (c : UInt8) : ∀ s : List UInt8, Lib.splitK [c] 0 (Lib.count s [c]) s = cutAt c s := by
 intro s
 induction s with
 | nil => rw [Lib.count_one]; rfl
 | cons b r ih =>
  by_cases h : b = c
  ·subst h
   have hix : Lib.index (b :: r) [b] = 0 := by rw [Lib.index]; simp [List.isPrefixOf]
   rw [Lib.count_cons_eq, show 1 + Lib.count r [b] = Lib.count r [b] + 1 by omega, Lib.splitK, hix, cutAt, if_pos rfl]
   simp [ih]
  ·rw [Lib.count_cons_ne b c r h, splitK_cons h, ih, cutAt, if_neg h]
theorem Split_ok (s : List UInt8) (c : UInt8) [MaxL GG] (hs : s.length < 4294967281) : Valid PP GG 194 [.d (.str s), .d (.str [c])] (.d (.slc 1 (strsD (cutAt c s)))) [none, none] := by
 refine lib_new [.str s, .str [c]] ⟨Tryz.f194, Tryz.func194, by kernel_rfl, by kernel_rfl⟩ fun w Fz args hG hFz hl hA => ?_
 have e : args = #[.string ⟨s.toArray⟩, .string ⟨#[c]⟩] := by
  refine args_eq (l := [.string ⟨s.toArray⟩, .string ⟨#[c]⟩]) hl fun i v hv => ?_
  match i, hv with
  | 0, hv => cases hv; exact shr_str (hA 0 _ rfl)
  | 1, hv => cases hv; exact shr_str (hA 1 _ rfl)
 subst e
 obtain ⟨ob, h1, h2⟩ := hG 0 _ MaxL.h
 cases ob with
 | cells cs t fr =>
  obtain ⟨m, h3⟩ := h2
  refine (Go.Proofs.YtoomonfpedjgoaaGreatDoor.Tryz.strings_Split ⟨s.toArray⟩ ⟨#[c]⟩ m w hs (by unfold World.cell?; simp [h1, h3]) (Nat.le_refl 1)).mono ?_
  rintro e w' ⟨rfl, rfl⟩
  have hcount : Lib.countB ⟨s.toArray⟩ ⟨#[c]⟩ = Lib.count s [c] := rfl
  have hsplit : (Lib.splitB ⟨#[c]⟩ 0 (Lib.countB ⟨s.toArray⟩ ⟨#[c]⟩) ⟨s.toArray⟩).map (·.data.toList) = cutAt c s := by
   rw [Lib.splitB_data, hcount]; exact split_cut c s
  have hlen : (cutAt c s).length = Lib.countB ⟨s.toArray⟩ ⟨#[c]⟩ + 1 := by
   rw [← hsplit, List.length_map, Lib.splitB_all ⟨#[c]⟩ (Nat.le_refl 1) 0 _ _ rfl]
  generalize Lib.countB ⟨s.toArray⟩ ⟨#[c]⟩ = k at hsplit hlen ⊢
  generalize hL : Lib.splitB ⟨#[c]⟩ 0 k ⟨s.toArray⟩ = L at hsplit ⊢
  have hLl : L.length = k + 1 := by rw [← hlen, ← hsplit, List.length_map]
  have hblk : ∀ b, b < w.heap.size → (w.alloc (.cells (L.map Value.string).toArray 9)).heap[b]? = w.heap[b]? := fun b hb => by
   show (w.heap.push _)[b]? = _
   rw [Array.getElem?_push_lt hb, Array.getElem?_eq_getElem hb]
  have hnew : (w.alloc (.cells (L.map Value.string).toArray 9)).heap[w.heap.size]? = some (.cells (L.map Value.string).toArray 9) := by
   show (w.heap.push _)[w.heap.size]? = _
   simp
  have hsz : (w.alloc (.cells (L.map Value.string).toArray 9)).heap.size = w.heap.size + 1 := by
   show (w.heap.push _).size = _
   simp
  refine ⟨_, fun b o => Fz b o ∨ b = w.heap.size, fun _ _ => False, rfl, ⟨rfl, rfl⟩, by omega, hblk, fun _ _ h => .inl h, fun b o h => ?_, .d _ _ _ ?_ fun _ _ h => h, fun _ _ h => h.elim⟩
  ·rcases h with h | h
   ·exact ⟨.inl h, by have := hFz b o h; omega⟩
   ·exact ⟨.inr (by omega), by omega⟩
  ·have hrows : (strsD (cutAt c s)).length = k + 1 := by simp [hlen]
   have hget : ∀ (m : Nat) (d : D), (strsD (cutAt c s)).flatten[m]? = some d → ∃ t : ByteArray, L[m]? = some t ∧ d = D.str t.data.toList := by
    intro m d hm
    rw [← hsplit] at hm
    have hf : (strsD (L.map (·.data.toList))).flatten = L.map fun t => D.str t.data.toList := by
     unfold strsD
     generalize L = M
     induction M with
     | nil => rfl
     | cons x M ih => simp only [List.map_cons, List.flatten_cons] at ih ⊢; rw [ih]; rfl
    rw [hf, List.getElem?_map] at hm
    cases ht : L[m]? with
    | none => rw [ht] at hm; cases hm
    | some t => rw [ht] at hm; cases hm; exact ⟨t, rfl, rfl⟩
   have hcell : ∀ (m : Nat) (t : ByteArray), L[m]? = some t → (w.alloc (.cells (L.map Value.string).toArray 9)).cell? (at_ w.heap.size (0 + m)) = some (.string t) := by
    intro m t ht
    unfold World.cell?
    rw [show (at_ w.heap.size (0 + m)).block = w.heap.size from rfl, hnew]
    simp [ht]
   have := Shr.slc (w := w.alloc (.cells (L.map Value.string).toArray 9)) (Fz := fun b o => Fz b o ∨ b = w.heap.size) w.heap.size 0 (k + 1) 1 (strsD (cutAt c s)) (fun m => match L[m]? with | some t => .string t | none => Go.undef)
    (fun r hr => by unfold strsD at hr; obtain ⟨x, _, rfl⟩ := List.mem_map.1 hr; rfl) (by omega)
    (fun m d hm => by
     obtain ⟨t, ht, _⟩ := hget m d hm
     exact ⟨by rw [hcell m t ht, ht], .inr rfl⟩)
    (fun m d hm => by
     obtain ⟨t, ht, rfl⟩ := hget m d hm
     rw [ht]
     exact Shr.str t.data.toList)
   rw [hrows] at this
   exact this
 | _ => exact h2.elim
theorem onlyOf_ok (s al : List UInt8) (hs : s.length ≤ 281474976710656) : Valid PP GG 122 [.d (.str s), .d (.str al)] (.d (.bool (s.all fun b => decide (0 ≤ Lib.indexByte al b)))) [none, none] := by
 refine cv Tryz.func122 [.d (.bool (s.all fun b => decide (0 ≤ Lib.indexByte al b)))] ?_
 refine u_1 ?_
 refine u_4 ?_
 refine W_block (W_loop (fun n st => ∃ i : Nat, n = s.length - i ∧ i ≤ s.length ∧ (∀ y, y ∈ s.take i → decide (0 ≤ Lib.indexByte al y) = true) ∧ st = ⟨[], [(0, .d (.str s)), (1, .d (.str al)), (7, .d (.int .i64 s.length)), (8, .d (.int .i64 i))], [], 0⟩) _ ⟨0, rfl, by omega, fun y h => by simp at h, rfl⟩ ?_)
 rintro n st ⟨i, rfl, hi, hn, rfl⟩
 refine u_1 ?_
 refine W_seq (?_)
 refine W_cond rfl (fun h => W_skip ?_) (fun h => W_exit ?_)
 ·simp at h
  have ha := List.getElem?_eq_getElem h
  generalize s[i] = x at ha
  have hd := getD_of ha
  have ci := IndexByte_ok (GG := GG) al x
  refine W_seq (W_block (W_seq ?_))
  refine u_5 ?_
  obtain ⟨v, hv⟩ : ∃ v, Lib.indexByte al x = v := ⟨_, rfl⟩
  rw [hv] at ci
  refine W_seq (?_)
  apply W_regS
  ·intro K hK
   simp [hd]
   repeat' (first | with_reducible exact hK | (with_reducible refine callQ (ci) ?_; simp [hd]) | (with_reducible refine goL_split (fun _ => ?_) (fun _ => ?_) <;> simp [hd]) | with_reducible refine And.intro ?_ ?_ | with_reducible exact okay_rfl rfl | with_reducible assumption | omega)
  refine W_cond rfl (fun h2 => W_seq ?_) (fun h2 => W_skip ?_)
  ·simp at h2
   refine u_5 ?_
   have : (s.all fun b => decide (0 ≤ Lib.indexByte al b)) = false := all_no ha (decide_eq_false (by omega))
   exact u_6
  simp at h2
  refine u_5 ?_
  exact ⟨s.length - (i + 1), by omega, i + 1, rfl, h, take_all ha hn (decide_eq_true (by omega)), by simp [gc, closeN, liveA, gcV, gcO, renA, namesAs, namesA]; rw [wrap_id (by omega) (by omega)]⟩
 ·simp at h
  rw [if_pos rfl]
  rw [List.take_of_length_le h] at hn
  refine u_1 ?_
  have : (s.all fun b => decide (0 ≤ Lib.indexByte al b)) = true := List.all_eq_true.2 hn
  exact u_6
def nameT : List UInt8 := [97, 98, 99, 100, 101, 102, 103, 104, 105, 106, 107, 108, 109, 110, 111, 112, 113, 114, 115, 116, 117, 118, 119, 120, 121, 122, 48, 49, 50, 51, 52, 53, 54, 55, 56, 57]
theorem nameT_is (b : UInt8) : decide (0 ≤ Lib.indexByte nameT b) = nameB b := by
 revert b; exact u8_all (p := fun b => decide (0 ≤ Lib.indexByte nameT b) = nameB b) (by decide +kernel)
theorem segT_is (b : UInt8) : decide (0 ≤ Lib.indexByte (nameT ++ [45]) b) = segB b := by
 revert b; exact u8_all (p := fun b => decide (0 ≤ Lib.indexByte (nameT ++ [45]) b) = segB b) (by decide +kernel)
theorem onlyName_ok (s : List UInt8) (hs : s.length ≤ 281474976710656) : Valid PP GG 122 [.d (.str s), .d (.str nameT)] (.d (.bool (s.all nameB))) [none, none] := by
 have h := onlyOf_ok (GG := GG) s nameT hs
 rw [show (fun b => decide (0 ≤ Lib.indexByte nameT b)) = nameB from funext nameT_is] at h
 exact h
theorem onlySeg_ok (s : List UInt8) (hs : s.length ≤ 281474976710656) : Valid PP GG 122 [.d (.str s), .d (.str (nameT ++ [45]))] (.d (.bool (s.all segB))) [none, none] := by
 have h := onlyOf_ok (GG := GG) s (nameT ++ [45]) hs
 rw [show (fun b => decide (0 ≤ Lib.indexByte (nameT ++ [45]) b)) = segB from funext segT_is] at h
 exact h
theorem isName_ok (s : List UInt8) (hs : s.length ≤ 281474976710656) : Valid PP GG 68 [.d (.str s)] (.d (.bool (nameOk s))) [none] := by
 refine cv Tryz.func68 [.d (.bool (nameOk s))] ?_
 have cw := within_ok (GG := GG) s.length 1 12
 have co := onlyName_ok (GG := GG) s hs
 simp only [nameT] at co
 obtain ⟨p, hp⟩ : ∃ p, (decide (1 ≤ (s.length : Int)) && decide ((s.length : Int) ≤ 12)) = p := ⟨_, rfl⟩
 have hr : nameOk s = (p && s.all nameB) := by
  unfold nameOk
  rw [← hp]
  congr 1
  rw [Bool.eq_iff_iff]; simp; omega
 rw [hp] at cw
 generalize s.all nameB = q at co hr
 refine u_1 ?_
 refine u_17 (Z2 cw co) 2 (p && q) ?_
 exact u_13 hr
theorem isGlob_ok [MaxL GG] (s : List UInt8) (hs : s.length ≤ 4194304) : Valid PP GG 176 [.d (.str s)] (.d (.bool (globOk s))) [none] := by
 refine cv Tryz.func176 [.d (.bool (globOk s))] ?_
 refine u_1 ?_
 refine u_4 ?_
 refine W_cond rfl (fun h => W_seq ?_) (fun h => W_skip ?_)
 ·simp at h
  refine u_5 ?_
  have : globOk s = false := by unfold globOk; rw [decide_eq_false (by omega)]; rfl
  exact u_6
 simp at h
 have cp := Split_ok (GG := GG) s 47 (by omega)
 have hg : globOk s = ((List.range (cutAt 47 s).length).all (segAt (cutAt 47 s)) && decide ((cutAt 47 s).length ≤ 8)) := by unfold globOk; rw [decide_eq_true (by omega)]; rfl
 have hml : ∀ x, x ∈ cutAt 47 s → x.length ≤ 4194304 := fun x hx => by have := cutAt_mem s hx; omega
 have hll := cutAt_len 47 s
 generalize cutAt 47 s = l at cp hg hml hll
 refine u_11 (Z1 cp) ?_
 refine u_4 ?_
 refine W_block (W_loop (fun n st => ∃ i : Nat, n = l.length - i ∧ i ≤ l.length ∧ (∀ j, j < i → segAt l j = true) ∧ st = ⟨[], [(3, .d (.slc 1 (strsD l))), (11, .d (.slc 1 (strsD l))), (12, .d (.int .i64 l.length)), (13, .d (.int .i64 i))], [], 0⟩) _ ⟨0, rfl, by omega, fun j h => by omega, rfl⟩ ?_)
 rintro n st ⟨i, rfl, hi, hn, rfl⟩
 refine u_1 ?_
 refine W_seq (?_)
 refine W_cond rfl (fun h => W_skip ?_) (fun h => W_exit ?_)
 ·simp at h
  have ha := List.getElem?_eq_getElem h
  generalize l[i] = x at ha
  have hxl := hml x (List.mem_of_getElem? ha)
  have cw := within_ok (GG := GG) x.length 1 16
  have co := onlySeg_ok (GG := GG) x (by omega)
  simp only [nameT, List.cons_append, List.nil_append] at co
  have hseg : segAt l i = (segOk x || (x == [43]) || (x == [42] && decide (i + 1 = l.length))) := by unfold segAt; rw [ha]
  obtain ⟨p, hp⟩ : ∃ p, (decide (1 ≤ (x.length : Int)) && decide ((x.length : Int) ≤ 16)) = p := ⟨_, rfl⟩
  have hr : segOk x = (p && x.all segB) := by
   unfold segOk
   rw [← hp]
   congr 1
   rw [Bool.eq_iff_iff]; simp; omega
  rw [hp] at cw
  obtain ⟨q, hq⟩ : ∃ q, x.all segB = q := ⟨_, rfl⟩
  rw [hq] at co hr
  obtain ⟨u, hu⟩ : ∃ p, (x == [43]) = p := ⟨_, rfl⟩
  obtain ⟨w, hw⟩ : ∃ p, (x == [42]) = p := ⟨_, rfl⟩
  rw [hr, hu, hw] at hseg
  have hwl : IntKind.i64.wrap ((l.length : Int) - 1) = (l.length : Int) - 1 := wrap_id (by omega) (by omega)
  obtain ⟨z, hz⟩ : ∃ z, decide ((i : Int) = (l.length : Int) - 1) = z := ⟨_, rfl⟩
  have hz2 : decide (i + 1 = l.length) = z := by rw [← hz]; exact decide_eq_decide.2 (by omega)
  rw [hz2] at hseg
  have hzb : ((i : Int) == (l.length : Int) - 1) = z := by rw [← hz]; rfl
  have hnext : segAt l i = true → ∀ j, j < i + 1 → segAt l j = true := fun hh j hj => by
   by_cases e : j = i
   ·subst e; exact hh
   ·exact hn j (by omega)
  refine W_seq (W_block (W_seq ?_))
  refine u_7 ha ?_
  refine W_seq (W_seq (?_))
  refine u_16 (Y4 hu hw hwl hzb) 30 (u || (w && z)) ?_
  refine W_cond rfl (fun h2 => W_exit ?_) (fun h2 => W_skip ?_)
  ·rw [if_pos rfl]
   refine u_5 ?_
   exact ⟨l.length - (i + 1), by omega, i + 1, rfl, h, hnext (by rw [hseg]; revert h2; cases u <;> cases w <;> cases z <;> simp), by simp [gc, closeN, liveA, gcV, gcO, renA, renO, namesAs, namesA, namesO, posn]; rw [wrap_id (by omega) (by omega)]⟩
  refine u_17 (Z2 cw co) 39 (!(p && q)) ?_
  refine W_cond rfl (fun h3 => W_seq ?_) (fun h3 => W_skip ?_)
  ·refine u_5 ?_
   have : globOk s = false := by
    rw [hg, range_no (i := i) (by omega) (by rw [hseg]; revert h2 h3; cases u <;> cases w <;> cases z <;> cases p <;> cases q <;> simp), Bool.false_and]
   exact u_6
  refine u_5 ?_
  exact ⟨l.length - (i + 1), by omega, i + 1, rfl, h, hnext (by rw [hseg]; revert h3; cases p <;> cases q <;> simp), by simp [gc, closeN, liveA, gcV, gcO, renA, renO, namesAs, namesA, namesO, posn]; rw [wrap_id (by omega) (by omega)]⟩
 ·simp at h
  rw [if_pos rfl]
  have hall : (List.range l.length).all (segAt l) = true := List.all_eq_true.2 fun j hj => hn j (by have := List.mem_range.1 hj; omega)
  refine u_1 ?_
  have : globOk s = decide ((l.length : Int) ≤ 8) := by rw [hg, hall, Bool.true_and]; exact decide_eq_decide.2 (by omega)
  exact u_6
theorem containsAny_star : ∀ s : List UInt8, Lib.containsAny s [43, 42] = s.any starB := by
 have hb : ∀ b : UInt8, ([43, 42] : List UInt8).contains b = starB b := u8_all (p := fun b => ([43, 42] : List UInt8).contains b = starB b) (by decide +kernel)
 intro s
 unfold Lib.containsAny
 induction s with
 | nil => rfl
 | cons b r ih =>
  have hge := Lib.indexAny_ge [43, 42] r
  rw [Lib.indexAny, hb, List.any_cons, ← ih]
  cases starB b with
  | true => rfl
  | false =>
   simp only [Bool.false_eq_true, if_false, Bool.false_or]
   by_cases hm : Lib.indexAny r [43, 42] = -1
   ·rw [hm]; rfl
   ·rw [if_neg (fun e => hm (beq_iff_eq.1 e))]
    exact decide_eq_decide.2 (by omega)
theorem isPath_ok [MaxL GG] (s : List UInt8) (hs : s.length ≤ 4194304) : Valid PP GG 148 [.d (.str s)] (.d (.bool (pathOk s))) [none] := by
 refine cv Tryz.func148 [.d (.bool (pathOk s))] ?_
 have cg := isGlob_ok (GG := GG) s hs
 have hp : pathOk s = (globOk s && !s.any starB) := rfl
 have hasc := globOk_ascii (s := s)
 generalize globOk s = g at cg hp hasc
 cases g with
 | false =>
  refine u_1 ?_
  refine u_17 (Z1 cg) 2 (false) ?_
  exact u_13 hp
 | true =>
  have cc := ContainsAny_ok (GG := GG) s [43, 42] (by omega) (by simp) (hasc rfl) (by decide)
  rw [containsAny_star] at cc
  generalize s.any starB = q at cc hp
  refine u_1 ?_
  refine u_17 (Z2 cg cc) 2 (!q) ?_
  exact u_13 hp
def inB (x lo hi : Int) : Bool := decide (lo ≤ x) && decide (x ≤ hi)
def keyB (x : Int) : Bool := inB x 0 1099511627776
theorem l04Key_ok (x : Int) : Valid PP GG 45 [.d (.int .i64 x)] (.d (.bool (keyB x))) [none] := by
 refine cv Tryz.func45 [.d (.bool (keyB x))] ?_
 have cl : Valid PP GG 23 [.d (.int .i64 x), .d (.int .i64 0), .d (.int .i64 1099511627776)] (.d (.bool (keyB x))) [none, none, none] := l01In_ok x 0 1099511627776
 refine u_1 ?_
 refine u_11 (Z1 cl) ?_
 exact u_3
theorem isKey_ok (x : Int) : Valid PP GG 100 [.d (.int .i64 x)] (.d (.bool (keyB x))) [none] := by
 refine cv Tryz.func100 [.d (.bool (keyB x))] ?_
 have cl : Valid PP GG 34 [.d (.int .i64 x), .d (.int .i64 0), .d (.int .i64 1099511627776)] (.d (.bool (keyB x))) [none, none, none] := within_ok x 0 1099511627776
 refine u_1 ?_
 refine u_11 (Z1 cl) ?_
 exact u_3
theorem intsD_snoc (l : List Int) (x : Int) : intsD (l ++ [x]) = intsD l ++ [[.int .i64 x]] := by simp [intsD]
theorem inB_true {x lo hi : Int} (h : inB x lo hi = true) : lo ≤ x ∧ x ≤ hi := by
 simp only [inB, Bool.and_eq_true, decide_eq_true_eq] at h; exact h
theorem l01Bytes_ok (a : List UInt8) (ha : a.length ≤ 70368744177664) : Valid PP GG 166 [.d (.slc 1 (bytesD a))] (.own 0 1 (bytesD a)) [none] := by
 refine cv Tryz.func166 [.own 0 1 (bytesD a)] ?_
 refine u_1 ?_
 refine u_14 ?_
 refine u_4 ?_
 refine W_block (W_loop (fun n st => ∃ i : Nat, n = a.length - i ∧ i ≤ a.length ∧
  st = ⟨[], [(0, .d (.slc 1 (bytesD a))), (3, .sl 0), (4, .d (.int .i64 i))], [(0, .arr 0 0 1 (bytesD (a.take i)))], 1⟩) _ ⟨0, rfl, by omega, rfl⟩ ?_)
 rintro n st ⟨i, rfl, hi, rfl⟩
 refine u_4 ?_
 refine W_cond rfl (fun h => W_skip ?_) (fun h => W_exit ?_)
 ·simp at h
  have hx := List.getElem?_eq_getElem h
  generalize a[i] = x at hx
  have hl : (a.take i).length ≤ a.length := by rw [List.length_take]; omega
  refine W_seq (W_block ?_)
  refine u_18 hx ?_
  refine u_5 ?_
  exact ⟨a.length - (i + 1), by omega, i + 1, rfl, h, by simp [gc, closeN, liveA, gcV, gcO, renA, renAs, renO, namesAs, namesA, namesO, posn, bytesD_succ hx]; exact wrap_id (by omega) (by omega)⟩
 ·simp at h
  rw [if_pos rfl]
  refine u_19 ?_
  exact u_3
theorem l01Join_ok (a b : List UInt8) (ha : a.length + b.length ≤ 70368744177664) : Valid PP GG 142 [.d (.slc 1 (bytesD a)), .d (.slc 1 (bytesD b))] (.own 0 1 (bytesD (a ++ b))) [none, none] := by
 refine cv Tryz.func142 [.own 0 1 (bytesD (a ++ b))] ?_
 have cb := l01Bytes_ok (GG := GG) a (by omega)
 have happ : ∀ x y : List UInt8, bytesD (x ++ y) = bytesD x ++ bytesD y := fun x y => by simp [bytesD]
 refine u_1 ?_
 refine u_11 (Z1 cb) ?_
 refine u_4 ?_
 refine W_block (W_loop (fun n st => ∃ i : Nat, n = b.length - i ∧ i ≤ b.length ∧
  st = ⟨[], [(1, .d (.slc 1 (bytesD b))), (5, .sl 0), (6, .d (.int .i64 i))], [(0, .arr 0 0 1 (bytesD (a ++ b.take i)))], 1⟩) _ ⟨0, rfl, by omega, by simp [gc, closeN, liveA, gcV, gcO, renA, renAs, renO, namesAs, namesA, namesO, posn]⟩ ?_)
 rintro n st ⟨i, rfl, hi, rfl⟩
 refine u_4 ?_
 refine W_cond rfl (fun h => W_skip ?_) (fun h => W_exit ?_)
 ·simp at h
  have hx := List.getElem?_eq_getElem h
  generalize b[i] = x at hx
  have hl : (a ++ b.take i).length ≤ a.length + b.length := by rw [List.length_append, List.length_take]; omega
  have hs := bytesD_succ hx
  obtain ⟨w, hw⟩ : ∃ w, a ++ b.take i = w := ⟨_, rfl⟩
  have hw2 : bytesD (a ++ b.take (i + 1)) = bytesD w ++ [[.int .u8 x.toNat]] := by rw [happ, hs, ← hw, happ, List.append_assoc]
  rw [hw] at hl ⊢
  refine W_seq (W_block ?_)
  refine u_18 hx ?_
  refine u_5 ?_
  exact ⟨b.length - (i + 1), by omega, i + 1, rfl, h, by simp [gc, closeN, liveA, gcV, gcO, renA, renAs, renO, namesAs, namesA, namesO, posn, hw2]; exact wrap_id (by omega) (by omega)⟩
 ·simp at h
  rw [if_pos rfl]
  refine u_19 ?_
  exact u_3
def wideB (x : Int) (i : Nat) : UInt8 := UInt8.ofNat ((x.toNat / 2 ^ (8 * i)) % 256)
def wide (x : Int) : List UInt8 := (List.range 8).map (wideB x)
theorem wide_len (x : Int) : (wide x).length = 8 := by simp [wide]
theorem wide_sh {x : Int} (hx : 0 ≤ x) {i q : Nat} (hi : i < 8) (hq : x.toNat / 2 ^ (8 * i) = q) : shBin .shr .i64 x (8 * (i : Int)) = some (.int .i64 (q : Int)) := by
 rw [shBin_shr _ _ _ (by omega)]
 have e1 : (8 * (i : Int)).toNat = 8 * i := by omega
 have e2 : min (8 * i) IntKind.i64.bits = 8 * i := by
  show min (8 * i) 64 = 8 * i
  omega
 have e4 : ((2 : Int) ^ (8 * i)) = ((2 ^ (8 * i) : Nat) : Int) := by simp
 obtain ⟨m, rfl⟩ : ∃ m : Nat, x = m := ⟨x.toNat, by omega⟩
 rw [e1, e2, e4, Int.fdiv_eq_ediv_of_nonneg _ (Int.natCast_nonneg _), ← hq]
 rfl
theorem wide_and (q : Nat) : intBin .and .i64 (q : Int) 255 = some (.int .i64 ((q % 256 : Nat) : Int)) := by
 have e : (BitVec.ofInt IntKind.i64.bits (q : Int) &&& BitVec.ofInt IntKind.i64.bits 255).toNat = q % 256 := by
  show (BitVec.ofInt 64 (q : Int) &&& 255#64).toNat = q % 256
  rw [BitVec.toNat_and, show (255#64).toNat = 2 ^ 8 - 1 from rfl, Nat.and_two_pow_sub_one_eq_mod, BitVec.ofInt_natCast, BitVec.toNat_ofNat]
  omega
 show some (D.int .i64 (IntKind.i64.wrap (((BitVec.ofInt IntKind.i64.bits (q : Int) &&& BitVec.ofInt IntKind.i64.bits 255).toNat : Nat) : Int))) = _
 rw [e, wrap_id (by omega) (by omega)]
theorem wide_u8 {x : Int} {i q : Nat} (hq : x.toNat / 2 ^ (8 * i) = q) : IntKind.u8.wrap (q : Int) = ((wideB x i).toNat : Int) := by
 unfold wideB
 rw [hq, IntKind.wrap_u8, UInt8.toNat_ofNat']; omega
theorem wide_u8' {x : Int} {i q : Nat} (hq : x.toNat / 2 ^ (8 * i) = q) : IntKind.u8.wrap ((q : Int) % 256) = ((wideB x i).toNat : Int) := by
 unfold wideB
 rw [hq, IntKind.wrap_u8, UInt8.toNat_ofNat']; omega
theorem wide_succ (x : Int) (i : Nat) : bytesD ((List.range (i + 1)).map (wideB x)) = bytesD ((List.range i).map (wideB x)) ++ [[.int .u8 (wideB x i).toNat]] := by
 simp [List.range_succ, bytesD]
theorem s_PutWide_ok (x : Int) (hk : keyB x = true) : Valid PP GG 143 [.d (.int .i64 x)] (.own 0 1 (bytesD (wide x))) [none] := by
 refine cv Tryz.func143 [.own 0 1 (bytesD (wide x))] ?_
 have ck := l04Key_ok (GG := GG) x
 rw [hk] at ck
 have hx := inB_true hk
 refine u_1 ?_
 refine u_14 ?_
 refine u_12 (Z1 ck) ?_
 refine W_cond rfl (fun h => ?_) (fun h => W_skip ?_)
 ·simp at h
 refine u_4 ?_
 refine W_block (W_loop (fun n st => ∃ i : Nat, n = 8 - i ∧ i ≤ 8 ∧
  st = ⟨[], [(0, .d (.int .i64 x)), (3, .sl 0), (4, .d (.int .i64 i))], [(0, .arr 0 0 1 (bytesD ((List.range i).map (wideB x))))], 1⟩) _ ⟨0, rfl, by omega, rfl⟩ ?_)
 rintro n st ⟨i, rfl, hi, rfl⟩
 refine u_4 ?_
 refine W_cond rfl (fun h => W_skip ?_) (fun h => W_exit ?_)
 ·simp at h
  obtain ⟨q, hq⟩ : ∃ q : Nat, x.toNat / 2 ^ (8 * i) = q := ⟨_, rfl⟩
  have f1 := wide_sh hx.1 (by omega) hq
  have f2 := wide_and q
  have f3 := wide_u8' hq
  have f4 : IntKind.i64.wrap (8 * (i : Int)) = 8 * i := wrap_id (by omega) (by omega)
  have f5 : IntKind.u64.wrap (8 * (i : Int)) = 8 * i := by rw [IntKind.wrap_u64]; omega
  have hs := wide_succ x i
  have hl : ((List.range i).map (wideB x)).length = i := by simp
  generalize (List.range i).map (wideB x) = w at hs hl ⊢
  generalize wideB x i = b at f3 hs
  refine W_seq (W_block ?_)
  apply W_regS
  ·intro K hK
   simp [f4, f5, f1, f2, f3, limit]
   repeat' (first | with_reducible exact hK | (with_reducible refine goL_split (fun _ => ?_) (fun _ => ?_) <;> simp [f4, f5, f1, f2, f3, limit]) | with_reducible refine And.intro ?_ ?_ | with_reducible exact okay_rfl rfl | with_reducible assumption | omega)
  refine u_5 ?_
  exact ⟨8 - (i + 1), by omega, i + 1, rfl, by omega, by rw [hs]; simp [gc, closeN, liveA, gcV, gcO, renA, renAs, renO, namesAs, namesA, namesO, posn]; exact wrap_id (by omega) (by omega)⟩
 ·simp at h
  have hi8 : i = 8 := by omega
  subst hi8
  rw [if_pos rfl]
  refine u_1 ?_
  refine W_ret ?_
  simp [Fin, wide]
  all_goals omega
theorem i_putWide_ok (x : Int) (hk : keyB x = true) : Valid PP GG 173 [.d (.int .i64 x)] (.own 0 1 (bytesD (wide x))) [none] := by
 refine cv Tryz.func173 [.own 0 1 (bytesD (wide x))] ?_
 have hx := inB_true hk
 refine u_1 ?_
 refine W_seq (?_)
 apply W_regS
 ·intro K hK
  simp [mkA, limit]
  repeat' (first | with_reducible exact hK | (with_reducible refine goL_split (fun _ => ?_) (fun _ => ?_) <;> simp [mkA, limit]) | with_reducible refine And.intro ?_ ?_ | with_reducible exact okay_rfl rfl | with_reducible assumption | omega)
 refine u_4 ?_
 refine W_block (W_loop (fun n st => ∃ (i : Nat) (R : List (List D)), n = 8 - i ∧ i ≤ 8 ∧ R.length = 8 ∧ (∀ r, r ∈ R → r.length = 1) ∧ R.take i = bytesD ((List.range i).map (wideB x)) ∧
  st = ⟨[], [(0, .d (.int .i64 x)), (3, .sl 0), (7, .d (.int .i64 8)), (8, .d (.int .i64 i))], [(0, .arr 0 0 1 R)], 1⟩) _ ⟨0, List.replicate 8 [.int .u8 0], rfl, by omega, by simp, by simp, rfl, rfl⟩ ?_)
 rintro n st ⟨i, R, rfl, hi, hl, h1, hR, rfl⟩
 refine u_1 ?_
 refine W_seq (?_)
 refine W_cond rfl (fun h => W_skip ?_) (fun h => W_exit ?_)
 ·simp at h
  obtain ⟨d, hd⟩ := row_one h1 (show i < R.length by omega)
  obtain ⟨q, hq⟩ : ∃ q : Nat, x.toNat / 2 ^ (8 * i) = q := ⟨_, rfl⟩
  have f1 := wide_sh hx.1 (by omega) hq
  have f3 := wide_u8 hq
  have f4 : IntKind.i64.wrap (8 * (i : Int)) = 8 * i := wrap_id (by omega) (by omega)
  have hs := wide_succ x i
  generalize wideB x i = b at f3 hs
  refine W_seq (W_block (W_seq ?_))
  refine u_5 ?_
  apply W_regS
  ·intro K hK
   simp [f4, f1, f3, hd, hl]
   repeat' (first | with_reducible exact hK | (with_reducible refine goL_split (fun _ => ?_) (fun _ => ?_) <;> simp [f4, f1, f3, hd, hl]) | with_reducible refine And.intro ?_ ?_ | with_reducible exact okay_rfl rfl | with_reducible assumption | omega)
  refine u_5 ?_
  exact ⟨8 - (i + 1), by omega, i + 1, R.set i [.int .u8 b.toNat], rfl, by omega, by simpa using hl, set_one h1, by rw [take_set_succ (by omega), hR, hs], by simp [gc, closeN, liveA, gcV, gcO, renA, renAs, renO, namesAs, namesA, namesO, posn]; exact wrap_id (by omega) (by omega)⟩
 ·simp at h
  have hi8 : i = 8 := by omega
  subst hi8
  have eR : R = bytesD (wide x) := by rwa [List.take_of_length_le (by omega)] at hR
  subst eR
  rw [if_pos rfl]
  refine u_1 ?_
  exact u_3
theorem digN_range (l : List UInt8) : 0 ≤ digN l ∧ digN l ≤ 4611686018427387904 := by
 have h1 := dA_lt l
 have h2 := dB_lt l
 unfold digN
 omega
structure GToken where
 fId : Int
 fParent : Int
 fNames : List (List UInt8)
 fMade : Int
 fEnds : Int
 fLimit : Int
 fUses : Int
 deriving DecidableEq
@[simp] abbrev GToken.row (x : GToken) : List D := [.int .i64 x.fId, .int .i64 x.fParent, .slc 1 (strsD x.fNames), .int .i64 x.fMade, .int .i64 x.fEnds, .int .i64 x.fLimit, .int .i64 x.fUses]
@[simp] abbrev GToken.c (x : GToken) : List C := [.d (.int .i64 x.fId), .d (.int .i64 x.fParent), .d (.slc 1 (strsD x.fNames)), .d (.int .i64 x.fMade), .d (.int .i64 x.fEnds), .d (.int .i64 x.fLimit), .d (.int .i64 x.fUses)]
@[simp] abbrev GToken.o (x : GToken) : List C := [.d (.int .i64 x.fId), .d (.int .i64 x.fParent), .own 0 1 (strsD x.fNames), .d (.int .i64 x.fMade), .d (.int .i64 x.fEnds), .d (.int .i64 x.fLimit), .d (.int .i64 x.fUses)]
def rToken (l : List GToken) : List (List D) := l.map GToken.row
@[simp] theorem rToken_len (l : List GToken) : (rToken l).length = l.length := by simp [rToken]
@[simp] theorem rToken_get (l : List GToken) (i : Nat) : (rToken l)[i]? = (l[i]?).map GToken.row := by simp [rToken]
theorem rToken_app (a b : List GToken) : rToken (a ++ b) = rToken a ++ rToken b := by simp [rToken]
def GToken.cost (x : GToken) : Nat := (x.fNames.length + sumBy List.length x.fNames)
def GToken.ok (x : GToken) : Prop := int64 x.fId ∧ int64 x.fParent ∧ x.fNames.length ≤ maxLen ∧ (∀ y, y ∈ x.fNames → y.length ≤ maxLen) ∧ int64 x.fMade ∧ int64 x.fEnds ∧ int64 x.fLimit ∧ int64 x.fUses
structure GForest where
 fTokens : List GToken
 deriving DecidableEq
@[simp] abbrev GForest.row (x : GForest) : List D := [.slc 7 (rToken x.fTokens)]
@[simp] abbrev GForest.c (x : GForest) : List C := [.d (.slc 7 (rToken x.fTokens))]
@[simp] abbrev GForest.o (x : GForest) : List C := [.own 1 7 (rToken x.fTokens)]
def GForest.cost (x : GForest) : Nat := (x.fTokens.length + sumBy GToken.cost x.fTokens)
def GForest.ok (x : GForest) : Prop := x.fTokens.length ≤ maxLen ∧ (∀ y, y ∈ x.fTokens → y.ok)
structure GLease where
 fId : Int
 fToken : Int
 fPath : List UInt8
 fMade : Int
 fEnds : Int
 fLimit : Int
 deriving DecidableEq
@[simp] abbrev GLease.row (x : GLease) : List D := [.int .i64 x.fId, .int .i64 x.fToken, .str x.fPath, .int .i64 x.fMade, .int .i64 x.fEnds, .int .i64 x.fLimit]
@[simp] abbrev GLease.c (x : GLease) : List C := [.d (.int .i64 x.fId), .d (.int .i64 x.fToken), .d (.str x.fPath), .d (.int .i64 x.fMade), .d (.int .i64 x.fEnds), .d (.int .i64 x.fLimit)]
@[simp] abbrev GLease.o (x : GLease) : List C := [.d (.int .i64 x.fId), .d (.int .i64 x.fToken), .d (.str x.fPath), .d (.int .i64 x.fMade), .d (.int .i64 x.fEnds), .d (.int .i64 x.fLimit)]
def rLease (l : List GLease) : List (List D) := l.map GLease.row
@[simp] theorem rLease_len (l : List GLease) : (rLease l).length = l.length := by simp [rLease]
@[simp] theorem rLease_get (l : List GLease) (i : Nat) : (rLease l)[i]? = (l[i]?).map GLease.row := by simp [rLease]
theorem rLease_app (a b : List GLease) : rLease (a ++ b) = rLease a ++ rLease b := by simp [rLease]
theorem rLease_row (l : List GLease) : ∀ r, r ∈ rLease l → r.length = 6 := by intro r h; simp only [rLease, List.mem_map] at h; obtain ⟨x, _, rfl⟩ := h; rfl
def GLease.cost (x : GLease) : Nat := x.fPath.length
def GLease.ok (x : GLease) : Prop := int64 x.fId ∧ int64 x.fToken ∧ x.fPath.length ≤ maxLen ∧ int64 x.fMade ∧ int64 x.fEnds ∧ int64 x.fLimit
structure GBook where
 fLeases : List GLease
 deriving DecidableEq
@[simp] abbrev GBook.row (x : GBook) : List D := [.slc 6 (rLease x.fLeases)]
@[simp] abbrev GBook.c (x : GBook) : List C := [.d (.slc 6 (rLease x.fLeases))]
@[simp] abbrev GBook.o (x : GBook) : List C := [.own 0 6 (rLease x.fLeases)]
def GBook.cost (x : GBook) : Nat := (x.fLeases.length + sumBy GLease.cost x.fLeases)
def GBook.ok (x : GBook) : Prop := x.fLeases.length ≤ maxLen ∧ (∀ y, y ∈ x.fLeases → y.ok)
structure GUser where
 fName : List UInt8
 fPass : List UInt8
 deriving DecidableEq
@[simp] abbrev GUser.row (x : GUser) : List D := [.str x.fName, .str x.fPass]
@[simp] abbrev GUser.c (x : GUser) : List C := [.d (.str x.fName), .d (.str x.fPass)]
@[simp] abbrev GUser.o (x : GUser) : List C := [.d (.str x.fName), .d (.str x.fPass)]
def rUser (l : List GUser) : List (List D) := l.map GUser.row
@[simp] theorem rUser_len (l : List GUser) : (rUser l).length = l.length := by simp [rUser]
@[simp] theorem rUser_get (l : List GUser) (i : Nat) : (rUser l)[i]? = (l[i]?).map GUser.row := by simp [rUser]
theorem rUser_app (a b : List GUser) : rUser (a ++ b) = rUser a ++ rUser b := by simp [rUser]
theorem rUser_row (l : List GUser) : ∀ r, r ∈ rUser l → r.length = 2 := by intro r h; simp only [rUser, List.mem_map] at h; obtain ⟨x, _, rfl⟩ := h; rfl
def GUser.cost (x : GUser) : Nat := x.fName.length + x.fPass.length
def GUser.ok (x : GUser) : Prop := x.fName.length ≤ maxLen ∧ x.fPass.length ≤ maxLen
structure GFar where
 fUsers : List GUser
 fFail : Int
 fMade : Int
 deriving DecidableEq
@[simp] abbrev GFar.row (x : GFar) : List D := [.slc 2 (rUser x.fUsers), .int .i64 x.fFail, .int .i64 x.fMade]
@[simp] abbrev GFar.c (x : GFar) : List C := [.d (.slc 2 (rUser x.fUsers)), .d (.int .i64 x.fFail), .d (.int .i64 x.fMade)]
@[simp] abbrev GFar.o (x : GFar) : List C := [.own 0 2 (rUser x.fUsers), .d (.int .i64 x.fFail), .d (.int .i64 x.fMade)]
def GFar.cost (x : GFar) : Nat := (x.fUsers.length + sumBy GUser.cost x.fUsers)
def GFar.ok (x : GFar) : Prop := x.fUsers.length ≤ maxLen ∧ (∀ y, y ∈ x.fUsers → y.ok) ∧ int64 x.fFail ∧ int64 x.fMade
structure GJob where
 fName : List UInt8
 fAt : Int
 fTries : Int
 deriving DecidableEq
@[simp] abbrev GJob.row (x : GJob) : List D := [.str x.fName, .int .i64 x.fAt, .int .i64 x.fTries]
@[simp] abbrev GJob.c (x : GJob) : List C := [.d (.str x.fName), .d (.int .i64 x.fAt), .d (.int .i64 x.fTries)]
@[simp] abbrev GJob.o (x : GJob) : List C := [.d (.str x.fName), .d (.int .i64 x.fAt), .d (.int .i64 x.fTries)]
def rJob (l : List GJob) : List (List D) := l.map GJob.row
@[simp] theorem rJob_len (l : List GJob) : (rJob l).length = l.length := by simp [rJob]
@[simp] theorem rJob_get (l : List GJob) (i : Nat) : (rJob l)[i]? = (l[i]?).map GJob.row := by simp [rJob]
theorem rJob_app (a b : List GJob) : rJob (a ++ b) = rJob a ++ rJob b := by simp [rJob]
theorem rJob_row (l : List GJob) : ∀ r, r ∈ rJob l → r.length = 3 := by intro r h; simp only [rJob, List.mem_map] at h; obtain ⟨x, _, rfl⟩ := h; rfl
def GJob.cost (x : GJob) : Nat := x.fName.length
def GJob.ok (x : GJob) : Prop := x.fName.length ≤ maxLen ∧ int64 x.fAt ∧ int64 x.fTries
structure GQueue where
 fJobs : List GJob
 deriving DecidableEq
@[simp] abbrev GQueue.row (x : GQueue) : List D := [.slc 3 (rJob x.fJobs)]
@[simp] abbrev GQueue.c (x : GQueue) : List C := [.d (.slc 3 (rJob x.fJobs))]
@[simp] abbrev GQueue.o (x : GQueue) : List C := [.own 0 3 (rJob x.fJobs)]
def GQueue.cost (x : GQueue) : Nat := (x.fJobs.length + sumBy GJob.cost x.fJobs)
def GQueue.ok (x : GQueue) : Prop := x.fJobs.length ≤ maxLen ∧ (∀ y, y ∈ x.fJobs → y.ok)
structure GOwned where
 fLease : Int
 fName : List UInt8
 deriving DecidableEq
@[simp] abbrev GOwned.row (x : GOwned) : List D := [.int .i64 x.fLease, .str x.fName]
@[simp] abbrev GOwned.c (x : GOwned) : List C := [.d (.int .i64 x.fLease), .d (.str x.fName)]
@[simp] abbrev GOwned.o (x : GOwned) : List C := [.d (.int .i64 x.fLease), .d (.str x.fName)]
def rOwned (l : List GOwned) : List (List D) := l.map GOwned.row
@[simp] theorem rOwned_len (l : List GOwned) : (rOwned l).length = l.length := by simp [rOwned]
@[simp] theorem rOwned_get (l : List GOwned) (i : Nat) : (rOwned l)[i]? = (l[i]?).map GOwned.row := by simp [rOwned]
theorem rOwned_app (a b : List GOwned) : rOwned (a ++ b) = rOwned a ++ rOwned b := by simp [rOwned]
theorem rOwned_row (l : List GOwned) : ∀ r, r ∈ rOwned l → r.length = 2 := by intro r h; simp only [rOwned, List.mem_map] at h; obtain ⟨x, _, rfl⟩ := h; rfl
def GOwned.cost (x : GOwned) : Nat := x.fName.length
def GOwned.ok (x : GOwned) : Prop := int64 x.fLease ∧ x.fName.length ≤ maxLen
structure GWorld where
 fNow : Int
 fNext : Int
 fLost : Int
 fForest : GForest
 fBook : GBook
 fFar : GFar
 fQueue : GQueue
 fOwned : List GOwned
 deriving DecidableEq
@[simp] abbrev GWorld.row (x : GWorld) : List D := [.int .i64 x.fNow, .int .i64 x.fNext, .int .i64 x.fLost, .slc 7 (rToken x.fForest.fTokens), .slc 6 (rLease x.fBook.fLeases), .slc 2 (rUser x.fFar.fUsers), .int .i64 x.fFar.fFail, .int .i64 x.fFar.fMade, .slc 3 (rJob x.fQueue.fJobs), .slc 2 (rOwned x.fOwned)]
@[simp] abbrev GWorld.c (x : GWorld) : List C := [.d (.int .i64 x.fNow), .d (.int .i64 x.fNext), .d (.int .i64 x.fLost), .d (.slc 7 (rToken x.fForest.fTokens)), .d (.slc 6 (rLease x.fBook.fLeases)), .d (.slc 2 (rUser x.fFar.fUsers)), .d (.int .i64 x.fFar.fFail), .d (.int .i64 x.fFar.fMade), .d (.slc 3 (rJob x.fQueue.fJobs)), .d (.slc 2 (rOwned x.fOwned))]
@[simp] abbrev GWorld.o (x : GWorld) : List C := [.d (.int .i64 x.fNow), .d (.int .i64 x.fNext), .d (.int .i64 x.fLost), .own 1 7 (rToken x.fForest.fTokens), .own 0 6 (rLease x.fBook.fLeases), .own 0 2 (rUser x.fFar.fUsers), .d (.int .i64 x.fFar.fFail), .d (.int .i64 x.fFar.fMade), .own 0 3 (rJob x.fQueue.fJobs), .own 0 2 (rOwned x.fOwned)]
def GWorld.cost (x : GWorld) : Nat := x.fForest.cost + x.fBook.cost + x.fFar.cost + x.fQueue.cost + (x.fOwned.length + sumBy GOwned.cost x.fOwned)
def GWorld.ok (x : GWorld) : Prop := int64 x.fNow ∧ int64 x.fNext ∧ int64 x.fLost ∧ x.fForest.ok ∧ x.fBook.ok ∧ x.fFar.ok ∧ x.fQueue.ok ∧ x.fOwned.length ≤ maxLen ∧ (∀ y, y ∈ x.fOwned → y.ok)
@[simp] theorem binA_strgeq (s t : List UInt8) : binA .str .geq (.d (.str s)) (.d (.str t)) = out (.d (.bool (!(Go.Op.bytesLess s t)))) := id rfl
@[simp] theorem binA_strlss (s t : List UInt8) : binA .str .lss (.d (.str s)) (.d (.str t)) = out (.d (.bool (Go.Op.bytesLess s t))) := id rfl
@[simp] theorem binA_strleq (s t : List UInt8) : binA .str .leq (.d (.str s)) (.d (.str t)) = out (.d (.bool (Go.Op.bytesLess s t || s == t))) := id rfl
@[simp] theorem binA_strgtr (s t : List UInt8) : binA .str .gtr (.d (.str s)) (.d (.str t)) = out (.d (.bool (!(Go.Op.bytesLess s t || s == t)))) := id rfl
def okP {α : Type} (q : List α → α → Bool) : List α → List α → Bool
 | _, [] => true
 | pre, x :: r => q pre x && okP q (pre ++ [x]) r
theorem okP_app {α : Type} (q : List α → α → Bool) (b : List α) : ∀ (a pre : List α), okP q pre (a ++ b) = (okP q pre a && okP q (pre ++ a) b) := by
 intro a
 induction a with
 | nil => intro pre; simp [okP]
 | cons x a ih => intro pre; simp [okP, ih, Bool.and_assoc]
theorem okP_step {α : Type} {q : List α → α → Bool} {l : List α} {i : Nat} {x : α} (h : l[i]? = some x) : okP q [] (l.take (i + 1)) = (okP q [] (l.take i) && q (l.take i) x) := by
 rw [List.take_add_one, h, okP_app]
 simp [okP]
theorem okP_bad {α : Type} {q : List α → α → Bool} {l : List α} {i : Nat} {x : α} (h : l[i]? = some x) (hq : q (l.take i) x = false) : okP q [] l = false := by
 have e : l = l.take i ++ (x :: l.drop (i + 1)) := by rw [← drop_get h, List.take_append_drop]
 rw [e, okP_app]
 simp only [okP, List.nil_append, hq, Bool.false_and, Bool.and_false]
def adjB {α : Type} (lt : α → α → Bool) (pre : List α) (x : α) : Bool := match pre.getLast? with | none => true | some p => lt p x
theorem adj_zero {α : Type} (lt : α → α → Bool) (l : List α) (x : α) : adjB lt (l.take 0) x = true := by simp [adjB]
theorem adj_succ {α : Type} (lt : α → α → Bool) {l : List α} {j : Nat} {p : α} (h : l[j]? = some p) (x : α) : adjB lt (l.take (j + 1)) x = lt p x := by
 unfold adjB
 rw [List.take_add_one, h]
 simp
theorem adj_pos {α : Type} (lt : α → α → Bool) {l : List α} {i : Nat} {p : α} (h0 : 0 < i) (h : l[i - 1]? = some p) (x : α) : adjB lt (l.take i) x = lt p x := by
 obtain ⟨j, rfl⟩ : ∃ j, i = j + 1 := ⟨i - 1, by omega⟩
 exact adj_succ lt h x
def nameQ (pre : List (List UInt8)) (x : List UInt8) : Bool := nameOk x && adjB (fun p x => Go.Op.bytesLess p x) pre x
def namesOk (l : List (List UInt8)) : Bool := decide (l.length ≤ 6) && okP nameQ [] l
theorem strs_get (l : List (List UInt8)) (i : Nat) : (strsD l)[i]? = (l[i]?).map fun s => [.str s] := by simp [strsD]
theorem areNames_ok (l : List (List UInt8)) (hl : l.length ≤ 1048576) (hs : ∀ s, s ∈ l → s.length ≤ 1048576) : Valid PP GG 151 [.d (.slc 1 (strsD l))] (.d (.bool (namesOk l))) [none] := by
 refine cv Tryz.func151 [.d (.bool (namesOk l))] ?_
 have hind := ind_strs l
 have hsl : (strsD l).length = l.length := by simp [strsD]
 refine u_21 hsl ?_
 refine W_loop (fun n st => ∃ i : Nat, n = l.length - i ∧ i ≤ l.length ∧ okP nameQ [] (l.take i) = true ∧ st = ⟨[], [(0, .d (.slc 1 (strsD l))), (5, .d (.slc 1 (strsD l))), (6, .d (.int .i64 l.length)), (7, .d (.int .i64 i))], [], 0⟩) _ ⟨0, rfl, by omega, rfl, ?_⟩ ?_
 ·exact u_22
 rintro n st ⟨i, rfl, hi, hok, rfl⟩
 by_cases hlt : i < l.length
 ·have ha := List.getElem?_eq_getElem hlt
  generalize l[i] = x at ha
  have cn := isName_ok (GG := GG) x (by have := hs x (List.mem_of_getElem? ha); omega)
  have hst := okP_step (q := nameQ) ha
  have hbad := fun h => okP_bad (q := nameQ) ha h
  rw [hok, Bool.true_and] at hst
  unfold nameQ at hst hbad
  cases hnx : nameOk x with
  | false =>
   rw [hnx] at cn hbad
   have hb : namesOk l = false := by unfold namesOk nameQ; rw [hbad rfl]; simp
   rw [hb]
   exact u_23 ha (Z1 cn)
  | true =>
   rw [hnx] at cn hst hbad
   simp only [Bool.true_and] at hst hbad
   by_cases h0 : i = 0
   ·subst h0
    rw [adj_zero] at hst
    refine u_24 ha (Z1 cn) ?_
    refine ⟨l.length - (0 + 1), by omega, 1, rfl, by omega, hst, ?_⟩
    refine u_25 ?_
    exact wrap_id (by omega) (by omega)
   ·have hp := List.getElem?_eq_getElem (show i - 1 < l.length by omega)
    generalize l[i - 1]'_ = p at hp
    rw [adj_pos _ (by omega) hp] at hst hbad
    have hpi : 0 < i := by omega
    have hw1 : IntKind.i64.wrap ((i : Int) - 1) = ((i - 1 : Nat) : Int) := by rw [wrap_id (by omega) (by omega)]; omega
    cases hb : Go.Op.bytesLess p x with
    | true =>
     rw [hb] at hst
     refine u_24 (Y5 ha hp hpi hw1 hb) (Z1 cn) ?_
     refine ⟨l.length - (i + 1), by omega, i + 1, rfl, by omega, hst, ?_⟩
     refine u_25 ?_
     exact wrap_id (by omega) (by omega)
    | false =>
     have hbf : namesOk l = false := by unfold namesOk nameQ; rw [hbad hb]; simp
     rw [hbf]
     exact u_23 (Y5 ha hp hpi hw1 hb) (Z1 cn)
 ·have hie : i = l.length := by omega
  subst hie
  rw [List.take_length] at hok
  have : namesOk l = decide ((l.length : Int) ≤ 6) := by unfold namesOk; rw [hok, Bool.and_true]; exact decide_eq_decide.2 (by omega)
  rw [this]
  exact u_20 hsl
theorem s_l08Names_ok (l : List (List UInt8)) (hl : l.length ≤ 1048576) (hs : ∀ s, s ∈ l → s.length ≤ 1048576) : Valid PP GG 120 [.d (.slc 1 (strsD l))] (.d (.bool (namesOk l))) [none] := by
 refine cv Tryz.func120 [.d (.bool (namesOk l))] ?_
 have hind := ind_strs l
 have hsl : (strsD l).length = l.length := by simp [strsD]
 by_cases h6 : l.length ≤ 6
 rotate_left
 ·have hb : namesOk l = false := by unfold namesOk; rw [decide_eq_false h6, Bool.false_and]
  rw [hb]
  have hd : 6 < l.length := by omega
  exact u_20 (Y2 hsl hd)
 have hd : ¬ 6 < l.length := by omega
 refine u_21 (Y2 hsl hd) ?_
 refine W_loop (fun n st => ∃ i : Nat, n = l.length - i ∧ i ≤ l.length ∧ okP nameQ [] (l.take i) = true ∧ st = ⟨[], [(0, .d (.slc 1 (strsD l))), (3, .d (.int .i64 i))], [], 0⟩) _ ⟨0, rfl, by omega, rfl, ?_⟩ ?_
 ·exact u_22
 rintro n st ⟨i, rfl, hi, hok, rfl⟩
 by_cases hlt : i < l.length
 ·have ha := List.getElem?_eq_getElem hlt
  generalize l[i] = x at ha
  have cn := l01Name_ok (GG := GG) x (by have := hs x (List.mem_of_getElem? ha); omega)
  have hst := okP_step (q := nameQ) ha
  have hbad := fun h => okP_bad (q := nameQ) ha h
  rw [hok, Bool.true_and] at hst
  unfold nameQ at hst hbad
  cases hnx : nameOk x with
  | false =>
   rw [hnx] at cn hbad
   have hb : namesOk l = false := by unfold namesOk nameQ; rw [hbad rfl]; simp
   rw [hb]
   exact u_23 (Y2 ha hsl) (Z1 cn)
  | true =>
   rw [hnx] at cn hst hbad
   simp only [Bool.true_and] at hst hbad
   by_cases h0 : i = 0
   ·subst h0
    rw [adj_zero] at hst
    refine u_24 (Y2 ha hsl) (Z1 cn) ?_
    refine ⟨l.length - (0 + 1), by omega, 1, rfl, by omega, hst, ?_⟩
    refine u_25 ?_
    exact wrap_id (by omega) (by omega)
   ·have hp := List.getElem?_eq_getElem (show i - 1 < l.length by omega)
    generalize l[i - 1]'_ = p at hp
    rw [adj_pos _ (by omega) hp] at hst hbad
    have hpi : 0 < i := by omega
    have hw1 : IntKind.i64.wrap ((i : Int) - 1) = ((i - 1 : Nat) : Int) := by rw [wrap_id (by omega) (by omega)]; omega
    cases hb : Go.Op.bytesLess p x with
    | true =>
     rw [hb] at hst
     refine u_24 (Y6 ha hp hsl hpi hw1 hb) (Z1 cn) ?_
     refine ⟨l.length - (i + 1), by omega, i + 1, rfl, by omega, hst, ?_⟩
     refine u_25 ?_
     exact wrap_id (by omega) (by omega)
    | false =>
     have hbf : namesOk l = false := by unfold namesOk nameQ; rw [hbad hb]; simp
     rw [hbf]
     exact u_23 (Y6 ha hp hsl hpi hw1 hb) (Z1 cn)
 ·have hie : i = l.length := by omega
  subst hie
  rw [List.take_length] at hok
  have : namesOk l = true := by unfold namesOk; rw [hok, decide_eq_true h6]; rfl
  rw [this]
  exact u_20 hsl
def tokenB (t : GToken) : Bool := inB t.fId 1 1000000000 && inB t.fParent 0 (t.fId - 1) && namesOk t.fNames && inB t.fMade 0 1000000000 &&
 (decide (t.fEnds = 0) || inB t.fEnds (t.fMade + 1) 1000000000) &&
 (decide (t.fLimit = 0) || (inB t.fLimit (t.fMade + 1) 1000000000 && !decide (t.fEnds = 0) && decide (t.fEnds ≤ t.fLimit))) && inB t.fUses 0 1000
def fitT (t : GToken) : Prop := t.fNames.length ≤ 1048576 ∧ ∀ s, s ∈ t.fNames → s.length ≤ 1048576
theorem tokenB_wrap (t : GToken) : tokenB t = (inB t.fId 1 1000000000 && inB t.fParent 0 (IntKind.i64.wrap (t.fId - 1)) && namesOk t.fNames && inB t.fMade 0 1000000000 &&
 (decide (t.fEnds = 0) || inB t.fEnds (IntKind.i64.wrap (t.fMade + 1)) 1000000000) &&
 (decide (t.fLimit = 0) || (inB t.fLimit (IntKind.i64.wrap (t.fMade + 1)) 1000000000 && !decide (t.fEnds = 0) && decide (t.fEnds ≤ t.fLimit))) && inB t.fUses 0 1000) := by
 unfold tokenB
 cases h1 : inB t.fId 1 1000000000 with
 | false => simp
 | true =>
  cases h2 : inB t.fMade 0 1000000000 with
  | false => simp
  | true =>
   unfold inB at h1 h2
   simp only [Bool.and_eq_true, decide_eq_true_eq] at h1 h2
   rw [wrap_id (show _ ≤ t.fId - 1 by omega) (by omega), wrap_id (show _ ≤ t.fMade + 1 by omega) (by omega)]
theorem isToken_ok [MaxL GG] (x : GToken) (hx : fitT x) : Valid PP GG 115 [.agg x.c] (.d (.bool (tokenB x))) [none] := by
 refine cv Tryz.func115 [.d (.bool (tokenB x))] ?_
 have hr := tokenB_wrap x
 obtain ⟨x1, x2, x3, x4, x5, x6, x7⟩ := x
 dsimp only at hr
 have c1 : Valid PP GG 34 [.d (.int .i64 x1), .d (.int .i64 1), .d (.int .i64 1000000000)] (.d (.bool (inB x1 1 1000000000))) [none, none, none] := within_ok _ _ _
 have c2 : Valid PP GG 34 [.d (.int .i64 x2), .d (.int .i64 0), .d (.int .i64 (IntKind.i64.wrap (x1 - 1)))] (.d (.bool (inB x2 0 (IntKind.i64.wrap (x1 - 1))))) [none, none, none] := within_ok _ _ _
 have c3 := areNames_ok (GG := GG) x3 hx.1 hx.2
 have c4 : Valid PP GG 34 [.d (.int .i64 x4), .d (.int .i64 0), .d (.int .i64 1000000000)] (.d (.bool (inB x4 0 1000000000))) [none, none, none] := within_ok _ _ _
 have c5 : Valid PP GG 34 [.d (.int .i64 x5), .d (.int .i64 (IntKind.i64.wrap (x4 + 1))), .d (.int .i64 1000000000)] (.d (.bool (inB x5 (IntKind.i64.wrap (x4 + 1)) 1000000000))) [none, none, none] := within_ok _ _ _
 have c6 : Valid PP GG 34 [.d (.int .i64 x6), .d (.int .i64 (IntKind.i64.wrap (x4 + 1))), .d (.int .i64 1000000000)] (.d (.bool (inB x6 (IntKind.i64.wrap (x4 + 1)) 1000000000))) [none, none, none] := within_ok _ _ _
 have c7 : Valid PP GG 34 [.d (.int .i64 x7), .d (.int .i64 0), .d (.int .i64 1000)] (.d (.bool (inB x7 0 1000))) [none, none, none] := within_ok _ _ _
 have hind := ind_strs x3
 have q5 : (x5 == 0) = decide (x5 = 0) := rfl
 have q6 : (x6 == 0) = decide (x6 = 0) := rfl
 have q7 : (x5 != 0) = !decide (x5 = 0) := rfl
 generalize inB x1 1 1000000000 = p1 at *
 generalize inB x2 0 (IntKind.i64.wrap (x1 - 1)) = p2 at *
 generalize namesOk x3 = p3 at *
 generalize inB x4 0 1000000000 = p4 at *
 generalize inB x5 (IntKind.i64.wrap (x4 + 1)) 1000000000 = p5 at *
 generalize inB x6 (IntKind.i64.wrap (x4 + 1)) 1000000000 = p6 at *
 generalize inB x7 0 1000 = p7 at *
 generalize decide (x5 = 0) = e0 at *
 generalize decide (x6 = 0) = l0 at *
 obtain ⟨le, hle⟩ : ∃ le, decide (x5 ≤ x6) = le := ⟨_, rfl⟩
 rw [hle] at hr
 refine u_1 ?_
 refine u_26 (Y2 q5 q6) (Z1 c5) 3 (e0 || p5) ?_
 refine u_26 (Y4 q5 q6 q7 hle) (Z1 c6) 4 (l0 || (p6 && !e0 && le)) ?_
 refine u_17 (Z5 c1 c2 c3 c4 c7) 2 (p1 && p2 && p3 && p4 && (e0 || p5) && (l0 || (p6 && !e0 && le)) && p7) ?_
 exact u_13 hr
theorem tokenB_s (t : GToken) : tokenB t = (inB t.fId 1 1000000000 && decide (0 ≤ t.fParent) && decide (t.fParent < t.fId) && namesOk t.fNames && inB t.fMade 0 1000000000 && inB t.fUses 0 1000 &&
 (decide (t.fEnds = 0) || inB t.fEnds (IntKind.i64.wrap (t.fMade + 1)) 1000000000) &&
 (decide (t.fLimit = 0) || (inB t.fLimit (IntKind.i64.wrap (t.fMade + 1)) 1000000000 && !decide (t.fEnds = 0) && decide (t.fEnds ≤ t.fLimit)))) := by
 rw [tokenB_wrap]
 cases h1 : inB t.fId 1 1000000000 with
 | false => simp
 | true =>
  have h2 : inB t.fParent 0 (IntKind.i64.wrap (t.fId - 1)) = (decide (0 ≤ t.fParent) && decide (t.fParent < t.fId)) := by
   unfold inB at h1 ⊢
   simp only [Bool.and_eq_true, decide_eq_true_eq] at h1
   rw [wrap_id (show _ ≤ t.fId - 1 by omega) (by omega)]
   congr 1
   exact decide_eq_decide.2 (by omega)
  rw [h2]
  generalize inB t.fUses 0 1000 = a
  generalize (decide (t.fEnds = 0) || inB t.fEnds (IntKind.i64.wrap (t.fMade + 1)) 1000000000) = b
  generalize (decide (t.fLimit = 0) || (inB t.fLimit (IntKind.i64.wrap (t.fMade + 1)) 1000000000 && !decide (t.fEnds = 0) && decide (t.fEnds ≤ t.fLimit))) = c
  cases a <;> cases b <;> cases c <;> simp
end Go.Proofs.YtoomonfpedjgoaaGreatDoor.Ab
