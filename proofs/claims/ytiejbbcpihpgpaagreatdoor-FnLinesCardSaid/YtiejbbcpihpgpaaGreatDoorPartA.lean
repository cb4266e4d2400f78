/-
  A part of a proof about the given program; what is proved is said where each theorem stands.
-/
import Derived.Test.YtiejbbcpihpgpaaGreatDoorCodes
namespace Go.Proofs
end Go.Proofs
set_option linter.unusedSimpArgs false
set_option linter.unusedVariables false
set_option maxRecDepth 100000
set_option maxHeartbeats 2000000
namespace Go.Proofs.YtiejbbcpihpgpaaGreatDoor.Ab
open Go.Proofs
structure Hid (q:Prop):Type where
 o:q
theorem Y2 {p0 p1:Prop} (x0:p0) (x1:p1):p0/\p1:=⟨x0,x1⟩
theorem Y3 {p0 p1 p2:Prop} (x0:p0) (x1:p1) (x2:p2):p0/\p1/\p2:=⟨x0,x1,x2⟩
theorem Y4 {p0 p1 p2 p3:Prop} (x0:p0) (x1:p1) (x2:p2) (x3:p3):p0/\p1/\p2/\p3:=⟨x0,x1,x2,x3⟩
theorem Y5 {p0 p1 p2 p3 p4:Prop} (x0:p0) (x1:p1) (x2:p2) (x3:p3) (x4:p4):p0/\p1/\p2/\p3/\p4:=⟨x0,x1,x2,x3,x4⟩
theorem Y6 {p0 p1 p2 p3 p4 p5:Prop} (x0:p0) (x1:p1) (x2:p2) (x3:p3) (x4:p4) (x5:p5):p0/\p1/\p2/\p3/\p4/\p5:=⟨x0,x1,x2,x3,x4,x5⟩
theorem Y7 {p0 p1 p2 p3 p4 p5 p6:Prop} (x0:p0) (x1:p1) (x2:p2) (x3:p3) (x4:p4) (x5:p5) (x6:p6):p0/\p1/\p2/\p3/\p4/\p5/\p6:=⟨x0,x1,x2,x3,x4,x5,x6⟩
theorem Y8 {p0 p1 p2 p3 p4 p5 p6 p7:Prop} (x0:p0) (x1:p1) (x2:p2) (x3:p3) (x4:p4) (x5:p5) (x6:p6) (x7:p7):p0/\p1/\p2/\p3/\p4/\p5/\p6/\p7:=⟨x0,x1,x2,x3,x4,x5,x6,x7⟩
theorem Y9 {p0 p1 p2 p3 p4 p5 p6 p7 p8:Prop} (x0:p0) (x1:p1) (x2:p2) (x3:p3) (x4:p4) (x5:p5) (x6:p6) (x7:p7) (x8:p8):p0/\p1/\p2/\p3/\p4/\p5/\p6/\p7/\p8:=⟨x0,x1,x2,x3,x4,x5,x6,x7,x8⟩
theorem Y10 {p0 p1 p2 p3 p4 p5 p6 p7 p8 p9:Prop} (x0:p0) (x1:p1) (x2:p2) (x3:p3) (x4:p4) (x5:p5) (x6:p6) (x7:p7) (x8:p8) (x9:p9):p0/\p1/\p2/\p3/\p4/\p5/\p6/\p7/\p8/\p9:=⟨x0,x1,x2,x3,x4,x5,x6,x7,x8,x9⟩
theorem Y15 {p0 p1 p2 p3 p4 p5 p6 p7 p8 p9 p10 p11 p12 p13 p14:Prop} (x0:p0) (x1:p1) (x2:p2) (x3:p3) (x4:p4) (x5:p5) (x6:p6) (x7:p7) (x8:p8) (x9:p9) (x10:p10) (x11:p11) (x12:p12) (x13:p13) (x14:p14):p0/\p1/\p2/\p3/\p4/\p5/\p6/\p7/\p8/\p9/\p10/\p11/\p12/\p13/\p14:=⟨x0,x1,x2,x3,x4,x5,x6,x7,x8,x9,x10,x11,x12,x13,x14⟩
theorem Z1 {p0:Prop} (x0:p0):p0/\True:=⟨x0,trivial⟩
theorem Z2 {p0 p1:Prop} (x0:p0) (x1:p1):p0/\p1/\True:=⟨x0,x1,trivial⟩
theorem Z3 {p0 p1 p2:Prop} (x0:p0) (x1:p1) (x2:p2):p0/\p1/\p2/\True:=⟨x0,x1,x2,trivial⟩
theorem Z4 {p0 p1 p2 p3:Prop} (x0:p0) (x1:p1) (x2:p2) (x3:p3):p0/\p1/\p2/\p3/\True:=⟨x0,x1,x2,x3,trivial⟩
theorem Z5 {p0 p1 p2 p3 p4:Prop} (x0:p0) (x1:p1) (x2:p2) (x3:p3) (x4:p4):p0/\p1/\p2/\p3/\p4/\True:=⟨x0,x1,x2,x3,x4,trivial⟩
theorem Z6 {p0 p1 p2 p3 p4 p5:Prop} (x0:p0) (x1:p1) (x2:p2) (x3:p3) (x4:p4) (x5:p5):p0/\p1/\p2/\p3/\p4/\p5/\True:=⟨x0,x1,x2,x3,x4,x5,trivial⟩
theorem Z7 {p0 p1 p2 p3 p4 p5 p6:Prop} (x0:p0) (x1:p1) (x2:p2) (x3:p3) (x4:p4) (x5:p5) (x6:p6):p0/\p1/\p2/\p3/\p4/\p5/\p6/\True:=⟨x0,x1,x2,x3,x4,x5,x6,trivial⟩
theorem bq {a b:Bool} (h:a=b:=by first|omega|(exact decide_eq_false (by omega))|(exact decide_eq_true (by omega))|(exact (decide_eq_true (by omega)).symm)|(exact (decide_eq_false (by omega)).symm)|(exact decide_eq_decide.2 (by omega))|(simp only [<-decide_not];exact decide_eq_decide.2 (by omega))|(simp [*];done)|(simp [*];omega)|(simp_all;done)|(simp_all;omega)|(rw [Bool.eq_iff_iff];simp at *;omega)):a=b:=h
abbrev RS (V:FuncId->List C->C->List (Option C)->Prop) (ops:List cM) (st st':St):Prop:=∀ K:St->Prop,K st'->uI V st.nx 0 ops st K
abbrev RD (V:FuncId->List C->C->List (Option C)->Prop) (ops:List cM) (st st':St):Prop:=∀ K:St->Prop,K st'->tB V st.nx 0 ops [] true st K
abbrev RB (V:FuncId->List C->C->List (Option C)->Prop) (ops:List cM) (st:St) (r:Nat) (b:Bool):Prop:=∀ K:St->Prop,(∀ t tm,t=b->K ⟨tm,put st.vars r (.d (.bool t)),st.objs,st.nx⟩)->uI V st.nx 0 ops st K
abbrev RE (V:FuncId->List C->C->List (Option C)->Prop) (ops:List cM) (st:St) (r:Nat) (b:Bool):Prop:=∀ K:St->Prop,(∀ t tm,t=b->K ⟨tm,put st.vars r (.d (.bool t)),st.objs,st.nx⟩)->tB V st.nx 0 ops [] true st K
section
variable {P:Program} {vl:List Nat} {nt:Nat×List Nat} {V:FuncId->List C->C->List (Option C)->Prop} {ops:List cM} {st st':St} {Kn:St->Prop} {Ke:Nat->St->Prop} {Kr:St->Prop} {a b' c':aI} {E L p q0 q1 q2 q3 q4:Prop}
theorem u_1 (hn:W P vl nt V a ⟨[],st'.vars,st'.objs,st.nx+64*ops.length⟩ Kn Ke Kr) (h:RS V ops st st':=by intro K hK;simp;repeat' (first|with_reducible exact hK|(with_reducible refine aJ (fun _=>?_) (fun _=>?_)<;>simp)|with_reducible refine And.intro ?_ ?_|with_reducible exact aL rfl|with_reducible assumption|omega)):W P vl nt V (.seq (.reg ops false) a) st Kn Ke Kr:=aN (mQ (h) hn)
theorem u_2 (e:E) (hn:Kn ⟨[],st'.vars,st'.objs,st.nx+64*ops.length⟩) (h:Hid E->RS V ops st st':=by intro e K hK;simp [e.o];repeat' (first|with_reducible exact hK|(with_reducible refine aJ (fun _=>?_) (fun _=>?_)<;>simp [e.o])|with_reducible refine And.intro ?_ ?_|with_reducible exact aL rfl|with_reducible assumption|omega)):W P vl nt V (.reg ops false) st Kn Ke Kr:=mQ (h ⟨e⟩) hn
theorem u_3 (hn:W P vl nt V a ⟨[],st'.vars,st'.objs,st.nx+64*ops.length⟩ (fun s=>W P vl nt V b' s Kn Ke Kr) Ke Kr) (h:RS V ops st st':=by intro K hK;simp;repeat' (first|with_reducible exact hK|(with_reducible refine aJ (fun _=>?_) (fun _=>?_)<;>simp)|with_reducible refine And.intro ?_ ?_|with_reducible exact aL rfl|with_reducible assumption|omega)):W P vl nt V (.seq (.seq (.reg ops false) a) b') st Kn Ke Kr:=aN (aN (mQ (h) hn))
theorem u_4 (e:E) (hn:Kn ⟨[],st'.vars,st'.objs,st.nx+64*ops.length⟩) (h:Hid E->RD V ops st st':=by intro e K hK;simp [e.o];repeat' (first|with_reducible exact hK|(with_reducible refine aJ (fun _=>?_) (fun _=>?_)<;>simp [e.o])|with_reducible refine And.intro ?_ ?_|with_reducible exact aL rfl|with_reducible assumption|omega)):W P vl nt V (.reg ops true) st Kn Ke Kr:=aA3 (h ⟨e⟩) hn
theorem u_5 (hn:Kn ⟨[],st'.vars,st'.objs,st.nx+64*ops.length⟩) (h:RS V ops st st':=by intro K hK;simp;repeat' (first|with_reducible exact hK|(with_reducible refine aJ (fun _=>?_) (fun _=>?_)<;>simp)|with_reducible refine And.intro ?_ ?_|with_reducible exact aL rfl|with_reducible assumption|omega)):W P vl nt V (.reg ops false) st Kn Ke Kr:=mQ (h) hn
theorem u_6 (e:E) (hn:W P vl nt V a ⟨[],st'.vars,st'.objs,st.nx+64*ops.length⟩ Kn Ke Kr) (h:Hid E->RS V ops st st':=by intro e K hK;simp [e.o];repeat' (first|with_reducible exact hK|(with_reducible refine aJ (fun _=>?_) (fun _=>?_)<;>simp [e.o])|with_reducible refine And.intro ?_ ?_|with_reducible exact aL rfl|with_reducible assumption|omega)):W P vl nt V (.seq (.reg ops false) a) st Kn Ke Kr:=aN (mQ (h ⟨e⟩) hn)
theorem u_7 (h:p:=by refine kI ?_;simp [Fin];all_goals omega):p:=h
theorem u_8 (e:E) (h:Hid E->p:=by intro e;refine kI ?_;simp [Fin,e.o];all_goals omega):p:=h ⟨e⟩
theorem u_9 (r:Nat) (b:Bool) (hn:W P vl nt V a ⟨[],put st.vars r (.d (.bool b)),st.objs,st.nx+64*ops.length⟩ Kn Ke Kr) (h:RB V ops st r b:=by intro K hK;simp;repeat' (first|exact hK _ _ (by clear hK;exact bq)|(with_reducible refine aJ (fun _=>?_) (fun _=>?_)<;>simp)|with_reducible refine And.intro ?_ ?_|with_reducible exact aL rfl|with_reducible assumption|omega)):W P vl nt V (.seq (.reg ops false) a) st Kn Ke Kr:=aN (pG r b (h) hn)
theorem aWz (k:L) (r:Nat) (b:Bool) (hn:W P vl nt V a ⟨[],put st.vars r (.d (.bool b)),st.objs,st.nx+64*ops.length⟩ (fun s=>W P vl nt V b' s Kn Ke Kr) Ke Kr) (h:Hid L->RB V ops st r b:=by intro k K hK;simp;repeat' (first|exact hK _ _ (by clear hK;exact bq)|((with_reducible first|refine aF (k.o.1 ..) ?_|refine aF (k.o.2.1 ..) ?_|refine aF (k.o.2.2.1 ..) ?_|refine aF (k.o.2.2.2.1 ..) ?_|refine aF (k.o.2.2.2.2.1 ..) ?_|refine aF (k.o.2.2.2.2.2.1 ..) ?_|refine aF (k.o.2.2.2.2.2.2.1 ..) ?_|refine aF (k.o.2.2.2.2.2.2.2.1 ..) ?_);simp)|(with_reducible refine aJ (fun _=>?_) (fun _=>?_)<;>simp)|with_reducible refine And.intro ?_ ?_|with_reducible exact aL rfl|with_reducible assumption|omega)):W P vl nt V (.seq (.seq (.reg ops false) a) b') st Kn Ke Kr:=aN (aN (pG r b (h ⟨k⟩) hn))
theorem aSz (e:E) (hn:W P vl nt V a ⟨[],st'.vars,st'.objs,st.nx+64*ops.length⟩ Kn Ke Kr) (h:Hid E->RD V ops st st':=by intro e K hK;simp [e.o];repeat' (first|with_reducible exact hK|(with_reducible refine aJ (fun _=>?_) (fun _=>?_)<;>simp [e.o])|with_reducible refine And.intro ?_ ?_|with_reducible exact aL rfl|with_reducible assumption|omega)):W P vl nt V (.seq (.reg ops true) a) st Kn Ke Kr:=aN (aA3 (h ⟨e⟩) hn)
theorem aSy (k:L) (r:Nat) (b:Bool) (hn:Kn ⟨[],put st.vars r (.d (.bool b)),st.objs,st.nx+64*ops.length⟩) (h:Hid L->RB V ops st r b:=by intro k K hK;simp;repeat' (first|exact hK _ _ (by clear hK;exact bq)|((with_reducible first|refine aF k.o.1 ?_|refine aF k.o.2.1 ?_|refine aF k.o.2.2.1 ?_|refine aF k.o.2.2.2.1 ?_|refine aF k.o.2.2.2.2.1 ?_|refine aF k.o.2.2.2.2.2.1 ?_|refine aF k.o.2.2.2.2.2.2.1 ?_|refine aF k.o.2.2.2.2.2.2.2.1 ?_);simp)|(with_reducible refine aJ (fun _=>?_) (fun _=>?_)<;>simp)|with_reducible refine And.intro ?_ ?_|with_reducible exact aL rfl|with_reducible assumption|omega)):W P vl nt V (.reg ops false) st Kn Ke Kr:=pG r b (h ⟨k⟩) hn
theorem aWy (e:E) (k:L) (hn:W P vl nt V a ⟨[],st'.vars,st'.objs,st.nx+64*ops.length⟩ Kn Ke Kr) (h:Hid E->Hid L->RD V ops st st':=by intro e k K hK;simp [e.o];repeat' (first|with_reducible exact hK|((with_reducible first|refine aF k.o.1 ?_|refine aF k.o.2.1 ?_|refine aF k.o.2.2.1 ?_|refine aF k.o.2.2.2.1 ?_|refine aF k.o.2.2.2.2.1 ?_|refine aF k.o.2.2.2.2.2.1 ?_|refine aF k.o.2.2.2.2.2.2.1 ?_|refine aF k.o.2.2.2.2.2.2.2.1 ?_);simp [e.o])|(with_reducible refine aJ (fun _=>?_) (fun _=>?_)<;>simp [e.o])|with_reducible refine And.intro ?_ ?_|with_reducible exact aL rfl|with_reducible assumption|omega)):W P vl nt V (.seq (.reg ops true) a) st Kn Ke Kr:=aN (aA3 (h ⟨e⟩ ⟨k⟩) hn)
theorem aP7 (e:E) (k:L) (hn:W P vl nt V a ⟨[],st'.vars,st'.objs,st.nx+64*ops.length⟩ Kn Ke Kr) (h:Hid E->Hid L->RS V ops st st':=by intro e k K hK;simp [e.o];repeat' (first|with_reducible exact hK|((with_reducible first|refine aF k.o.1 ?_|refine aF k.o.2.1 ?_|refine aF k.o.2.2.1 ?_|refine aF k.o.2.2.2.1 ?_|refine aF k.o.2.2.2.2.1 ?_|refine aF k.o.2.2.2.2.2.1 ?_|refine aF k.o.2.2.2.2.2.2.1 ?_|refine aF k.o.2.2.2.2.2.2.2.1 ?_);simp [e.o])|(with_reducible refine aJ (fun _=>?_) (fun _=>?_)<;>simp [e.o])|with_reducible refine And.intro ?_ ?_|with_reducible exact aL rfl|with_reducible assumption|omega)):W P vl nt V (.seq (.reg ops false) a) st Kn Ke Kr:=aN (mQ (h ⟨e⟩ ⟨k⟩) hn)
theorem oK (k:L) (hn:W P vl nt V a ⟨[],st'.vars,st'.objs,st.nx+64*ops.length⟩ Kn Ke Kr) (h:Hid L->RS V ops st st':=by intro k K hK;simp;repeat' (first|with_reducible exact hK|((with_reducible first|refine aF k.o.1 ?_|refine aF k.o.2.1 ?_|refine aF k.o.2.2.1 ?_|refine aF k.o.2.2.2.1 ?_|refine aF k.o.2.2.2.2.1 ?_|refine aF k.o.2.2.2.2.2.1 ?_|refine aF k.o.2.2.2.2.2.2.1 ?_|refine aF k.o.2.2.2.2.2.2.2.1 ?_);simp)|(with_reducible refine aJ (fun _=>?_) (fun _=>?_)<;>simp)|with_reducible refine And.intro ?_ ?_|with_reducible exact aL rfl|with_reducible assumption|omega)):W P vl nt V (.seq (.reg ops false) a) st Kn Ke Kr:=aN (mQ (h ⟨k⟩) hn)
theorem aD4 (k:L) (hn:W P vl nt V a ⟨[],st'.vars,st'.objs,st.nx+64*ops.length⟩ (fun s=>W P vl nt V b' s Kn Ke Kr) Ke Kr) (h:Hid L->RS V ops st st':=by intro k K hK;simp;repeat' (first|with_reducible exact hK|((with_reducible first|refine aF k.o.1 ?_|refine aF k.o.2.1 ?_|refine aF k.o.2.2.1 ?_|refine aF k.o.2.2.2.1 ?_|refine aF k.o.2.2.2.2.1 ?_|refine aF k.o.2.2.2.2.2.1 ?_|refine aF k.o.2.2.2.2.2.2.1 ?_|refine aF k.o.2.2.2.2.2.2.2.1 ?_);simp)|(with_reducible refine aJ (fun _=>?_) (fun _=>?_)<;>simp)|with_reducible refine And.intro ?_ ?_|with_reducible exact aL rfl|with_reducible assumption|omega)):W P vl nt V (.seq (.seq (.reg ops false) a) b') st Kn Ke Kr:=aN (aN (mQ (h ⟨k⟩) hn))
theorem aSx (r:Nat) (b:Bool) (hn:Kn ⟨[],put st.vars r (.d (.bool b)),st.objs,st.nx+64*ops.length⟩) (h:RB V ops st r b:=by intro K hK;simp;repeat' (first|exact hK _ _ (by clear hK;exact bq)|(with_reducible refine aJ (fun _=>?_) (fun _=>?_)<;>simp)|with_reducible refine And.intro ?_ ?_|with_reducible exact aL rfl|with_reducible assumption|omega)):W P vl nt V (.reg ops false) st Kn Ke Kr:=pG r b (h) hn
theorem aSw (e:E) (r:Nat) (b:Bool) (hn:Kn ⟨[],put st.vars r (.d (.bool b)),st.objs,st.nx+64*ops.length⟩) (h:Hid E->RB V ops st r b:=by intro e K hK;simp [e.o];repeat' (first|exact hK _ _ (by clear hK;exact bq)|(with_reducible refine aJ (fun _=>?_) (fun _=>?_)<;>simp [e.o])|with_reducible refine And.intro ?_ ?_|with_reducible exact aL rfl|with_reducible assumption|omega)):W P vl nt V (.reg ops false) st Kn Ke Kr:=pG r b (h ⟨e⟩) hn
theorem aP6 (e:E) (k:L) (r:Nat) (b:Bool) (hn:W P vl nt V a ⟨[],put st.vars r (.d (.bool b)),st.objs,st.nx+64*ops.length⟩ (fun s=>W P vl nt V b' s Kn Ke Kr) Ke Kr) (h:Hid E->Hid L->RB V ops st r b:=by intro e k K hK;simp [e.o];repeat' (first|exact hK _ _ (by clear hK;exact bq)|((with_reducible first|refine aF k.o.1 ?_|refine aF k.o.2.1 ?_|refine aF k.o.2.2.1 ?_|refine aF k.o.2.2.2.1 ?_|refine aF k.o.2.2.2.2.1 ?_|refine aF k.o.2.2.2.2.2.1 ?_|refine aF k.o.2.2.2.2.2.2.1 ?_|refine aF k.o.2.2.2.2.2.2.2.1 ?_);simp [e.o])|(with_reducible refine aJ (fun _=>?_) (fun _=>?_)<;>simp [e.o])|with_reducible refine And.intro ?_ ?_|with_reducible exact aL rfl|with_reducible assumption|omega)):W P vl nt V (.seq (.seq (.reg ops false) a) b') st Kn Ke Kr:=aN (aN (pG r b (h ⟨e⟩ ⟨k⟩) hn))
theorem aWx (k:L) (r:Nat) (b:Bool) (hn:W P vl nt V a ⟨[],put st.vars r (.d (.bool b)),st.objs,st.nx+64*ops.length⟩ (fun s=>W P vl nt V b' s Kn Ke Kr) Ke Kr) (h:Hid L->RB V ops st r b:=by intro k K hK;simp;repeat' (first|exact hK _ _ (by clear hK;exact bq)|((with_reducible first|refine aF k.o.1 ?_|refine aF k.o.2.1 ?_|refine aF k.o.2.2.1 ?_|refine aF k.o.2.2.2.1 ?_|refine aF k.o.2.2.2.2.1 ?_|refine aF k.o.2.2.2.2.2.1 ?_|refine aF k.o.2.2.2.2.2.2.1 ?_|refine aF k.o.2.2.2.2.2.2.2.1 ?_);simp)|(with_reducible refine aJ (fun _=>?_) (fun _=>?_)<;>simp)|with_reducible refine And.intro ?_ ?_|with_reducible exact aL rfl|with_reducible assumption|omega)):W P vl nt V (.seq (.seq (.reg ops false) a) b') st Kn Ke Kr:=aN (aN (pG r b (h ⟨k⟩) hn))
theorem aWw (e:E) (r:Nat) (b:Bool) (hn:W P vl nt V a ⟨[],put st.vars r (.d (.bool b)),st.objs,st.nx+64*ops.length⟩ Kn Ke Kr) (h:Hid E->RE V ops st r b:=by intro e K hK;simp [e.o];repeat' (first|exact hK _ _ (by clear hK;exact bq)|(with_reducible refine aJ (fun _=>?_) (fun _=>?_)<;>simp [e.o])|with_reducible refine And.intro ?_ ?_|with_reducible exact aL rfl|with_reducible assumption|omega)):W P vl nt V (.seq (.reg ops true) a) st Kn Ke Kr:=aN (aB5 r b (h ⟨e⟩) hn)
theorem aUG (e:E) (hn:W P vl nt V a ⟨[],st'.vars,st'.objs,st.nx+64*ops.length⟩ (fun s=>W P vl nt V b' s Kn Ke Kr) Ke Kr) (h:Hid E->RS V ops st st':=by intro e K hK;simp [e.o];repeat' (first|with_reducible exact hK|(with_reducible refine aJ (fun _=>?_) (fun _=>?_)<;>simp [e.o])|with_reducible refine And.intro ?_ ?_|with_reducible exact aL rfl|with_reducible assumption|omega)):W P vl nt V (.seq (.seq (.reg ops false) a) b') st Kn Ke Kr:=aN (aN (mQ (h ⟨e⟩) hn))
theorem aWv (e:E) (k:L) (r:Nat) (b:Bool) (hn:Kn ⟨[],put st.vars r (.d (.bool b)),st.objs,st.nx+64*ops.length⟩) (h:Hid E->Hid L->RE V ops st r b:=by intro e k K hK;simp [e.o];repeat' (first|exact hK _ _ (by clear hK;exact bq)|((with_reducible first|refine aF k.o.1 ?_|refine aF k.o.2.1 ?_|refine aF k.o.2.2.1 ?_|refine aF k.o.2.2.2.1 ?_|refine aF k.o.2.2.2.2.1 ?_|refine aF k.o.2.2.2.2.2.1 ?_|refine aF k.o.2.2.2.2.2.2.1 ?_|refine aF k.o.2.2.2.2.2.2.2.1 ?_);simp [e.o])|(with_reducible refine aJ (fun _=>?_) (fun _=>?_)<;>simp [e.o])|with_reducible refine And.intro ?_ ?_|with_reducible exact aL rfl|with_reducible assumption|omega)):W P vl nt V (.reg ops true) st Kn Ke Kr:=aB5 r b (h ⟨e⟩ ⟨k⟩) hn
theorem oE (k:L) (h:Hid L->p:=by intro k;(repeat' (first|refine aN ?_|refine aQ ?_|refine aU ?_|refine cR ?_|refine aW rfl ?_|refine bB rfl ?_|((first|refine iX fun K hK=>?_|refine fS fun K hK=>?_|refine kI ?_|with_reducible refine aF k.o.1 ?_|with_reducible refine aF k.o.2.1 ?_|with_reducible refine aF k.o.2.2.1 ?_|with_reducible refine aF k.o.2.2.2.1 ?_|with_reducible refine aF k.o.2.2.2.2.1 ?_|with_reducible refine aF k.o.2.2.2.2.2.1 ?_|with_reducible refine aF k.o.2.2.2.2.2.2.1 ?_|with_reducible refine aF k.o.2.2.2.2.2.2.2.1 ?_);simp [Fin])|(with_reducible refine hK _ ?_;clear hK K)|(with_reducible refine aJ (fun h=>?_) (fun h=>?_)<;>first|(exfalso;simp at h;first|done|omega|contradiction)|((try simp at h);simp))|with_reducible refine And.intro ?_ ?_|with_reducible exact aL rfl|with_reducible assumption|(refine aO rfl (fun h=>?_) (fun h=>?_)<;>first|(exfalso;simp at h;first|done|omega|contradiction)|(exfalso;simp_all;done)|(try simp at h))|omega));all_goals first|exact h0.o|exact h1.o|exact h2.o|exact h3.o):p:=h ⟨k⟩
theorem aSv (e:E) (k:L) (r:Nat) (b:Bool) (hn:W P vl nt V a ⟨[],put st.vars r (.d (.bool b)),st.objs,st.nx+64*ops.length⟩ (fun s=>W P vl nt V b' s Kn Ke Kr) Ke Kr) (h:Hid E->Hid L->RE V ops st r b:=by intro e k K hK;simp [e.o];repeat' (first|exact hK _ _ (by clear hK;exact bq)|((with_reducible first|refine aF k.o.1 ?_|refine aF k.o.2.1 ?_|refine aF k.o.2.2.1 ?_|refine aF k.o.2.2.2.1 ?_|refine aF k.o.2.2.2.2.1 ?_|refine aF k.o.2.2.2.2.2.1 ?_|refine aF k.o.2.2.2.2.2.2.1 ?_|refine aF k.o.2.2.2.2.2.2.2.1 ?_);simp [e.o])|(with_reducible refine aJ (fun _=>?_) (fun _=>?_)<;>simp [e.o])|with_reducible refine And.intro ?_ ?_|with_reducible exact aL rfl|with_reducible assumption|omega)):W P vl nt V (.seq (.seq (.reg ops true) a) b') st Kn Ke Kr:=aN (aN (aB5 r b (h ⟨e⟩ ⟨k⟩) hn))
theorem aP5 (e:E) (k:L) (hn:Kn ⟨[],st'.vars,st'.objs,st.nx+64*ops.length⟩) (h:Hid E->Hid L->RD V ops st st':=by intro e k K hK;simp [e.o];repeat' (first|with_reducible exact hK|((with_reducible first|refine aF k.o.1 ?_|refine aF k.o.2.1 ?_|refine aF k.o.2.2.1 ?_|refine aF k.o.2.2.2.1 ?_|refine aF k.o.2.2.2.2.1 ?_|refine aF k.o.2.2.2.2.2.1 ?_|refine aF k.o.2.2.2.2.2.2.1 ?_|refine aF k.o.2.2.2.2.2.2.2.1 ?_);simp [e.o])|(with_reducible refine aJ (fun _=>?_) (fun _=>?_)<;>simp [e.o])|with_reducible refine And.intro ?_ ?_|with_reducible exact aL rfl|with_reducible assumption|omega)):W P vl nt V (.reg ops true) st Kn Ke Kr:=aA3 (h ⟨e⟩ ⟨k⟩) hn
theorem aSu (k:L) (hn:Kn ⟨[],st'.vars,st'.objs,st.nx+64*ops.length⟩) (h:Hid L->RS V ops st st':=by intro k K hK;simp;repeat' (first|with_reducible exact hK|((with_reducible first|refine aF k.o.1 ?_|refine aF k.o.2.1 ?_|refine aF k.o.2.2.1 ?_|refine aF k.o.2.2.2.1 ?_|refine aF k.o.2.2.2.2.1 ?_|refine aF k.o.2.2.2.2.2.1 ?_|refine aF k.o.2.2.2.2.2.2.1 ?_|refine aF k.o.2.2.2.2.2.2.2.1 ?_);simp)|(with_reducible refine aJ (fun _=>?_) (fun _=>?_)<;>simp)|with_reducible refine And.intro ?_ ?_|with_reducible exact aL rfl|with_reducible assumption|omega)):W P vl nt V (.reg ops false) st Kn Ke Kr:=mQ (h ⟨k⟩) hn
theorem nK (h:p:=by (repeat' (first|refine aN ?_|refine aQ ?_|refine aU ?_|refine cR ?_|refine aW rfl ?_|refine bB rfl ?_|((first|refine iX fun K hK=>?_|refine fS fun K hK=>?_|refine kI ?_);simp [Fin])|(with_reducible refine hK _ ?_;clear hK K)|(with_reducible refine aJ (fun h=>?_) (fun h=>?_)<;>first|(exfalso;simp at h;first|done|omega|contradiction)|((try simp at h);simp))|with_reducible refine And.intro ?_ ?_|with_reducible exact aL rfl|with_reducible assumption|(refine aO rfl (fun h=>?_) (fun h=>?_)<;>first|(exfalso;simp at h;first|done|omega|contradiction)|(exfalso;simp_all;done)|(try simp at h))|omega));all_goals first|exact h0.o|exact h1.o|exact h2.o|exact h3.o):p:=h
theorem jJ (h0:q0) (h:Hid q0->p:=by intro h0;exact nK):p:=h ⟨h0⟩
theorem fC (e:E) (h:Hid E->p:=by intro e;(repeat' (first|refine aN ?_|refine aQ ?_|refine aU ?_|refine cR ?_|refine aW rfl ?_|refine bB rfl ?_|((first|refine iX fun K hK=>?_|refine fS fun K hK=>?_|refine kI ?_);simp [Fin,e.o])|(with_reducible refine hK _ ?_;clear hK K)|(with_reducible refine aJ (fun h=>?_) (fun h=>?_)<;>first|(exfalso;simp at h;first|done|omega|contradiction)|((try simp at h);simp [e.o]))|with_reducible refine And.intro ?_ ?_|with_reducible exact aL rfl|with_reducible assumption|(refine aO rfl (fun h=>?_) (fun h=>?_)<;>first|(exfalso;simp at h;first|done|omega|contradiction)|(exfalso;simp_all;done)|(try simp at h))|omega));all_goals first|exact h0.o|exact h1.o|exact h2.o|exact h3.o):p:=h ⟨e⟩
theorem eT (e:E) (h0:q0) (h:Hid E->Hid q0->p:=by intro e;intro h0;exact fC e.o):p:=h ⟨e⟩ ⟨h0⟩
theorem kN (h0:q0) (h:Hid q0->p:=by intro h0;(simp [gc,bP,cI,gcV,gcO,dS,cU,eH,aY,bR,bU,dU]);exact h0.o):p:=h ⟨h0⟩
theorem dO (e:E) (k:L) (h:Hid E->Hid L->p:=by intro e k;(repeat' (first|refine aN ?_|refine aQ ?_|refine aU ?_|refine cR ?_|refine aW rfl ?_|refine bB rfl ?_|((first|refine iX fun K hK=>?_|refine fS fun K hK=>?_|refine kI ?_|with_reducible refine aF k.o.1 ?_|with_reducible refine aF k.o.2.1 ?_|with_reducible refine aF k.o.2.2.1 ?_|with_reducible refine aF k.o.2.2.2.1 ?_|with_reducible refine aF k.o.2.2.2.2.1 ?_|with_reducible refine aF k.o.2.2.2.2.2.1 ?_|with_reducible refine aF k.o.2.2.2.2.2.2.1 ?_|with_reducible refine aF k.o.2.2.2.2.2.2.2.1 ?_);simp [Fin,e.o])|(with_reducible refine hK _ ?_;clear hK K)|(with_reducible refine aJ (fun h=>?_) (fun h=>?_)<;>first|(exfalso;simp at h;first|done|omega|contradiction)|((try simp at h);simp [e.o]))|with_reducible refine And.intro ?_ ?_|with_reducible exact aL rfl|with_reducible assumption|(refine aO rfl (fun h=>?_) (fun h=>?_)<;>first|(exfalso;simp at h;first|done|omega|contradiction)|(exfalso;simp_all;done)|(try simp at h))|omega));all_goals first|exact h0.o|exact h1.o|exact h2.o|exact h3.o):p:=h ⟨e⟩ ⟨k⟩
theorem gE (e:E) (h:Hid E->p:=by intro e;simp [gc,bP,cI,gcV,gcO,dS,cU,eH,aY,bR,bU,dU,e.o]):p:=h ⟨e⟩
theorem aFq (k:L) (h0:q0) (h:Hid L->Hid q0->p:=by intro k;intro h0;exact oE k.o):p:=h ⟨k⟩ ⟨h0⟩
theorem fV (e:E) (k:L) (h0:q0) (h:Hid E->Hid L->Hid q0->p:=by intro e k;intro h0;exact dO e.o k.o):p:=h ⟨e⟩ ⟨k⟩ ⟨h0⟩
theorem kM (e:E) (h0:q0) (h:Hid E->Hid q0->p:=by intro e;intro h0;(simp [gc,bP,cI,gcV,gcO,dS,cU,eH,aY,bR,bU,dU,e.o]);exact h0.o):p:=h ⟨e⟩ ⟨h0⟩
theorem oJ (h:p:=by simp [gc,bP,cI,gcV,gcO,dS,cU,eH,aY,bR,bU,dU]):p:=h
theorem aUF (e:E) (k:L) (r:Nat) (b:Bool) (hn:W P vl nt V a ⟨[],put st.vars r (.d (.bool b)),st.objs,st.nx+64*ops.length⟩ Kn Ke Kr) (h:Hid E->Hid L->RB V ops st r b:=by intro e k K hK;simp [e.o];repeat' (first|exact hK _ _ (by clear hK;exact bq)|((with_reducible first|refine aF k.o.1 ?_|refine aF k.o.2.1 ?_|refine aF k.o.2.2.1 ?_|refine aF k.o.2.2.2.1 ?_|refine aF k.o.2.2.2.2.1 ?_|refine aF k.o.2.2.2.2.2.1 ?_|refine aF k.o.2.2.2.2.2.2.1 ?_|refine aF k.o.2.2.2.2.2.2.2.1 ?_);simp [e.o])|(with_reducible refine aJ (fun _=>?_) (fun _=>?_)<;>simp [e.o])|with_reducible refine And.intro ?_ ?_|with_reducible exact aL rfl|with_reducible assumption|omega)):W P vl nt V (.seq (.reg ops false) a) st Kn Ke Kr:=aN (pG r b (h ⟨e⟩ ⟨k⟩) hn)
theorem aWu (h0:q0) (h:Hid q0->p:=by intro h0;(simp [gc,bP,cI,gcV,gcO,dS,cU,eH,aY,bR,bU,dU,<-aQE]);exact h0.o):p:=h ⟨h0⟩
theorem aWt (h0:q0) (h:Hid q0->p:=by intro h0;(simp [gc,bP,cI,gcV,gcO,dS,cU,eH,aY,bR,bU,dU,<-aOv]);exact h0.o):p:=h ⟨h0⟩
theorem aCg (r:Nat) (b:Bool) (hn:W P vl nt V a ⟨[],put st.vars r (.d (.bool b)),st.objs,st.nx+64*ops.length⟩ (fun s=>W P vl nt V b' s Kn Ke Kr) Ke Kr) (h:RB V ops st r b:=by intro K hK;simp;repeat' (first|exact hK _ _ (by clear hK;exact bq)|(with_reducible refine aJ (fun _=>?_) (fun _=>?_)<;>simp)|with_reducible refine And.intro ?_ ?_|with_reducible exact aL rfl|with_reducible assumption|omega)):W P vl nt V (.seq (.seq (.reg ops false) a) b') st Kn Ke Kr:=aN (aN (pG r b (h) hn))
theorem aP4 (e:E) (r:Nat) (b:Bool) (hn:W P vl nt V a ⟨[],put st.vars r (.d (.bool b)),st.objs,st.nx+64*ops.length⟩ (fun s=>W P vl nt V b' s Kn Ke Kr) Ke Kr) (h:Hid E->RB V ops st r b:=by intro e K hK;simp [e.o];repeat' (first|exact hK _ _ (by clear hK;exact bq)|(with_reducible refine aJ (fun _=>?_) (fun _=>?_)<;>simp [e.o])|with_reducible refine And.intro ?_ ?_|with_reducible exact aL rfl|with_reducible assumption|omega)):W P vl nt V (.seq (.seq (.reg ops false) a) b') st Kn Ke Kr:=aN (aN (pG r b (h ⟨e⟩) hn))
theorem aWs (e:E) (r:Nat) (b:Bool) (hn:W P vl nt V a ⟨[],put st.vars r (.d (.bool b)),st.objs,st.nx+64*ops.length⟩ Kn Ke Kr) (h:Hid E->RB V ops st r b:=by intro e K hK;simp [e.o];repeat' (first|exact hK _ _ (by clear hK;exact bq)|(with_reducible refine aJ (fun _=>?_) (fun _=>?_)<;>simp [e.o])|with_reducible refine And.intro ?_ ?_|with_reducible exact aL rfl|with_reducible assumption|omega)):W P vl nt V (.seq (.reg ops false) a) st Kn Ke Kr:=aN (pG r b (h ⟨e⟩) hn)
theorem aWr (e:E) (k:L) (hn:W P vl nt V a ⟨[],st'.vars,st'.objs,st.nx+64*ops.length⟩ (fun s=>W P vl nt V b' s Kn Ke Kr) Ke Kr) (h:Hid E->Hid L->RD V ops st st':=by intro e k K hK;simp [e.o];repeat' (first|with_reducible exact hK|((with_reducible first|refine aF k.o.1 ?_|refine aF k.o.2.1 ?_|refine aF k.o.2.2.1 ?_|refine aF k.o.2.2.2.1 ?_|refine aF k.o.2.2.2.2.1 ?_|refine aF k.o.2.2.2.2.2.1 ?_|refine aF k.o.2.2.2.2.2.2.1 ?_|refine aF k.o.2.2.2.2.2.2.2.1 ?_);simp [e.o])|(with_reducible refine aJ (fun _=>?_) (fun _=>?_)<;>simp [e.o])|with_reducible refine And.intro ?_ ?_|with_reducible exact aL rfl|with_reducible assumption|omega)):W P vl nt V (.seq (.seq (.reg ops true) a) b') st Kn Ke Kr:=aN (aN (aA3 (h ⟨e⟩ ⟨k⟩) hn))
theorem aWq (e:E) (k:L) (hn:W P vl nt V a ⟨[],st'.vars,st'.objs,st.nx+64*ops.length⟩ (fun s=>W P vl nt V b' s Kn Ke Kr) Ke Kr) (h:Hid E->Hid L->RS V ops st st':=by intro e k K hK;simp [e.o];repeat' (first|with_reducible exact hK|((with_reducible first|refine aF k.o.1 ?_|refine aF k.o.2.1 ?_|refine aF k.o.2.2.1 ?_|refine aF k.o.2.2.2.1 ?_|refine aF k.o.2.2.2.2.1 ?_|refine aF k.o.2.2.2.2.2.1 ?_|refine aF k.o.2.2.2.2.2.2.1 ?_|refine aF k.o.2.2.2.2.2.2.2.1 ?_);simp [e.o])|(with_reducible refine aJ (fun _=>?_) (fun _=>?_)<;>simp [e.o])|with_reducible refine And.intro ?_ ?_|with_reducible exact aL rfl|with_reducible assumption|omega)):W P vl nt V (.seq (.seq (.reg ops false) a) b') st Kn Ke Kr:=aN (aN (mQ (h ⟨e⟩ ⟨k⟩) hn))
theorem aWp (h:p:=by (repeat' (first|refine gH ?_|refine eL ?_|refine eC ?_|refine dR ?_|refine eW ?_|refine aW rfl ?_|refine bB rfl ?_|((first|refine eQ fun K hK=>?_|refine dQ fun K hK=>?_);simp [Fin])|(with_reducible refine hK _ ?_;clear hK K)|(with_reducible refine aJ (fun h=>?_) (fun h=>?_)<;>first|(exfalso;simp at h;first|done|omega|contradiction)|((try simp at h);simp))|with_reducible refine And.intro ?_ ?_|with_reducible exact aL rfl|with_reducible assumption|(refine dN rfl (fun h=>?_) (fun h=>?_)<;>first|(exfalso;simp at h;first|done|omega|contradiction)|(exfalso;simp_all;done)|(try simp at h))|omega));all_goals first|exact h0.o|exact h1.o|exact h2.o|exact h3.o):p:=h
theorem mG (h0:q0) (h:Hid q0->p:=by intro h0;exact aWp):p:=h ⟨h0⟩
theorem fI (h:p:=by simp [gc,bP,cI,gcV,gcO,dS,cU,eH,aY,bR,bU,dU]):p:=h
theorem aUE (e:E) (h:Hid E->p:=by intro e;(repeat' (first|refine gH ?_|refine eL ?_|refine eC ?_|refine dR ?_|refine eW ?_|refine aW rfl ?_|refine bB rfl ?_|((first|refine eQ fun K hK=>?_|refine dQ fun K hK=>?_);simp [Fin,e.o])|(with_reducible refine hK _ ?_;clear hK K)|(with_reducible refine aJ (fun h=>?_) (fun h=>?_)<;>first|(exfalso;simp at h;first|done|omega|contradiction)|((try simp at h);simp [e.o]))|with_reducible refine And.intro ?_ ?_|with_reducible exact aL rfl|with_reducible assumption|(refine dN rfl (fun h=>?_) (fun h=>?_)<;>first|(exfalso;simp at h;first|done|omega|contradiction)|(exfalso;simp_all;done)|(try simp at h))|omega));all_goals first|exact h0.o|exact h1.o|exact h2.o|exact h3.o):p:=h ⟨e⟩
theorem aSt (e:E) (h0:q0) (h1:q1) (h:Hid E->Hid q0->Hid q1->p:=by intro e;intro h0 h1;exact aUE e.o):p:=h ⟨e⟩ ⟨h0⟩ ⟨h1⟩
theorem dV (e:E) (h:Hid E->p:=by intro e;simp [gc,bP,cI,gcV,gcO,dS,cU,eH,aY,bR,bU,dU,e.o]):p:=h ⟨e⟩
theorem aUD (h0:q0) (h1:q1) (h:Hid q0->Hid q1->p:=by intro h0 h1;exact aWp):p:=h ⟨h0⟩ ⟨h1⟩
theorem aWo (e:E) (k:L) (h:Hid E->Hid L->p:=by intro e k;(repeat' (first|refine gH ?_|refine eL ?_|refine eC ?_|refine dR ?_|refine eW ?_|refine aW rfl ?_|refine bB rfl ?_|((first|refine eQ fun K hK=>?_|refine dQ fun K hK=>?_|with_reducible refine aF k.o.1 ?_|with_reducible refine aF k.o.2.1 ?_|with_reducible refine aF k.o.2.2.1 ?_|with_reducible refine aF k.o.2.2.2.1 ?_|with_reducible refine aF k.o.2.2.2.2.1 ?_|with_reducible refine aF k.o.2.2.2.2.2.1 ?_|with_reducible refine aF k.o.2.2.2.2.2.2.1 ?_|with_reducible refine aF k.o.2.2.2.2.2.2.2.1 ?_);simp [Fin,e.o])|(with_reducible refine hK _ ?_;clear hK K)|(with_reducible refine aJ (fun h=>?_) (fun h=>?_)<;>first|(exfalso;simp at h;first|done|omega|contradiction)|((try simp at h);simp [e.o]))|with_reducible refine And.intro ?_ ?_|with_reducible exact aL rfl|with_reducible assumption|(refine dN rfl (fun h=>?_) (fun h=>?_)<;>first|(exfalso;simp at h;first|done|omega|contradiction)|(exfalso;simp_all;done)|(try simp at h))|omega));all_goals first|exact h0.o|exact h1.o|exact h2.o|exact h3.o):p:=h ⟨e⟩ ⟨k⟩
theorem cP (e:E) (k:L) (h0:q0) (h:Hid E->Hid L->Hid q0->p:=by intro e k;intro h0;exact aWo e.o k.o):p:=h ⟨e⟩ ⟨k⟩ ⟨h0⟩
theorem aUC (e:E) (k:L) (h0:q0) (h1:q1) (h:Hid E->Hid L->Hid q0->Hid q1->p:=by intro e k;intro h0 h1;exact aWo e.o k.o):p:=h ⟨e⟩ ⟨k⟩ ⟨h0⟩ ⟨h1⟩
theorem aWn (k:L) (h:Hid L->p:=by intro k;(repeat' (first|refine gH ?_|refine eL ?_|refine eC ?_|refine dR ?_|refine eW ?_|refine aW rfl ?_|refine bB rfl ?_|((first|refine eQ fun K hK=>?_|refine dQ fun K hK=>?_|with_reducible refine aF k.o.1 ?_|with_reducible refine aF k.o.2.1 ?_|with_reducible refine aF k.o.2.2.1 ?_|with_reducible refine aF k.o.2.2.2.1 ?_|with_reducible refine aF k.o.2.2.2.2.1 ?_|with_reducible refine aF k.o.2.2.2.2.2.1 ?_|with_reducible refine aF k.o.2.2.2.2.2.2.1 ?_|with_reducible refine aF k.o.2.2.2.2.2.2.2.1 ?_);simp [Fin])|(with_reducible refine hK _ ?_;clear hK K)|(with_reducible refine aJ (fun h=>?_) (fun h=>?_)<;>first|(exfalso;simp at h;first|done|omega|contradiction)|((try simp at h);simp))|with_reducible refine And.intro ?_ ?_|with_reducible exact aL rfl|with_reducible assumption|(refine dN rfl (fun h=>?_) (fun h=>?_)<;>first|(exfalso;simp at h;first|done|omega|contradiction)|(exfalso;simp_all;done)|(try simp at h))|omega));all_goals first|exact h0.o|exact h1.o|exact h2.o|exact h3.o):p:=h ⟨k⟩
theorem eA (k:L) (h0:q0) (h:Hid L->Hid q0->p:=by intro k;intro h0;exact aWn k.o):p:=h ⟨k⟩ ⟨h0⟩
theorem iZ (e:E) (h0:q0) (h:Hid E->Hid q0->p:=by intro e;intro h0;exact aUE e.o):p:=h ⟨e⟩ ⟨h0⟩
theorem aWm (e:E) (h0:q0) (h1:q1) (h2:q2) (h:Hid E->Hid q0->Hid q1->Hid q2->p:=by intro e;intro h0 h1 h2;exact aUE e.o):p:=h ⟨e⟩ ⟨h0⟩ ⟨h1⟩ ⟨h2⟩
theorem rE (hn:Dt P vl nt V a ⟨[],st'.vars,st'.objs,st.nx+64*ops.length⟩ Kn Ke Kr) (h:RS V ops st st':=by intro K hK;simp;repeat' (first|with_reducible exact hK|(with_reducible refine aJ (fun _=>?_) (fun _=>?_)<;>simp)|with_reducible refine And.intro ?_ ?_|with_reducible exact aL rfl|with_reducible assumption|omega)):Dt P vl nt V (.seq (.reg ops false) a) st Kn Ke Kr:=eL (sT (h) hn)
theorem aD3 (k:L) (hn:Dt P vl nt V a ⟨[],st'.vars,st'.objs,st.nx+64*ops.length⟩ Kn Ke Kr) (h:Hid L->RS V ops st st':=by intro k K hK;simp;repeat' (first|with_reducible exact hK|((with_reducible first|refine aF k.o.1 ?_|refine aF k.o.2.1 ?_|refine aF k.o.2.2.1 ?_|refine aF k.o.2.2.2.1 ?_|refine aF k.o.2.2.2.2.1 ?_|refine aF k.o.2.2.2.2.2.1 ?_|refine aF k.o.2.2.2.2.2.2.1 ?_|refine aF k.o.2.2.2.2.2.2.2.1 ?_);simp)|(with_reducible refine aJ (fun _=>?_) (fun _=>?_)<;>simp)|with_reducible refine And.intro ?_ ?_|with_reducible exact aL rfl|with_reducible assumption|omega)):Dt P vl nt V (.seq (.reg ops false) a) st Kn Ke Kr:=eL (sT (h ⟨k⟩) hn)
theorem aSs (e:E) (hn:Dt P vl nt V a ⟨[],st'.vars,st'.objs,st.nx+64*ops.length⟩ Kn Ke Kr) (h:Hid E->RS V ops st st':=by intro e K hK;simp [e.o];repeat' (first|with_reducible exact hK|(with_reducible refine aJ (fun _=>?_) (fun _=>?_)<;>simp [e.o])|with_reducible refine And.intro ?_ ?_|with_reducible exact aL rfl|with_reducible assumption|omega)):Dt P vl nt V (.seq (.reg ops false) a) st Kn Ke Kr:=eL (sT (h ⟨e⟩) hn)
theorem aSr (k:L) (h0:q0) (h1:q1) (h:Hid L->Hid q0->Hid q1->p:=by intro k;intro h0 h1;exact aWn k.o):p:=h ⟨k⟩ ⟨h0⟩ ⟨h1⟩
theorem aUB (k:L) (hn:Dt P vl nt V a ⟨[],st'.vars,st'.objs,st.nx+64*ops.length⟩ (fun s=>Dt P vl nt V b' s Kn Ke Kr) Ke Kr) (h:Hid L->RS V ops st st':=by intro k K hK;simp;repeat' (first|with_reducible exact hK|((with_reducible first|refine aF k.o.1 ?_|refine aF k.o.2.1 ?_|refine aF k.o.2.2.1 ?_|refine aF k.o.2.2.2.1 ?_|refine aF k.o.2.2.2.2.1 ?_|refine aF k.o.2.2.2.2.2.1 ?_|refine aF k.o.2.2.2.2.2.2.1 ?_|refine aF k.o.2.2.2.2.2.2.2.1 ?_);simp)|(with_reducible refine aJ (fun _=>?_) (fun _=>?_)<;>simp)|with_reducible refine And.intro ?_ ?_|with_reducible exact aL rfl|with_reducible assumption|omega)):Dt P vl nt V (.seq (.seq (.reg ops false) a) b') st Kn Ke Kr:=eL (eL (sT (h ⟨k⟩) hn))
theorem aSq (e:E) (hn:Dt P vl nt V a ⟨[],st'.vars,st'.objs,st.nx+64*ops.length⟩ (fun s=>Dt P vl nt V b' s Kn Ke Kr) Ke Kr) (h:Hid E->RS V ops st st':=by intro e K hK;simp [e.o];repeat' (first|with_reducible exact hK|(with_reducible refine aJ (fun _=>?_) (fun _=>?_)<;>simp [e.o])|with_reducible refine And.intro ?_ ?_|with_reducible exact aL rfl|with_reducible assumption|omega)):Dt P vl nt V (.seq (.seq (.reg ops false) a) b') st Kn Ke Kr:=eL (eL (sT (h ⟨e⟩) hn))
theorem aWl (hn:Dt P vl nt V a ⟨[],st'.vars,st'.objs,st.nx+64*ops.length⟩ (fun s=>Dt P vl nt V b' s Kn Ke Kr) Ke Kr) (h:RS V ops st st':=by intro K hK;simp;repeat' (first|with_reducible exact hK|(with_reducible refine aJ (fun _=>?_) (fun _=>?_)<;>simp)|with_reducible refine And.intro ?_ ?_|with_reducible exact aL rfl|with_reducible assumption|omega)):Dt P vl nt V (.seq (.seq (.reg ops false) a) b') st Kn Ke Kr:=eL (eL (sT (h) hn))
end
theorem aA {n:Int} (h1:-9223372036854775808<=n) (h2:n<=9223372036854775807):IntKind.i64.wrap n=n:=by
 rw [IntKind.wrap_i64];omega
theorem aSU {R:List (List D)} {i:Nat} (h:∀ r,r∈R->r.length=1) (hi:i<R.length):∃ d,R[i]?=some [d]:=by
 have:=h _ (List.getElem_mem hi)
 rw [List.length_eq_one_iff] at this
 obtain ⟨d,hd⟩:=this
 exact ⟨d,by rw [List.getElem?_eq_getElem hi,hd]⟩
theorem aSM {R:List (List D)} {i:Nat} {d:D} (h:∀ r,r∈R->r.length=1):∀ r,r∈R.set i [d]->r.length=1:=by
 intro r hr
 rcases List.mem_or_eq_of_mem_set hr with h1|h1
 ·exact h r h1
 ·subst h1;rfl
theorem aFr {R:List (List D)} {i:Nat} {r:List D} (hi:i<R.length):(R.set i r).take (i+1)=R.take i++[r]:=by
 rw [List.take_add_one,List.take_set_of_le (Nat.le_refl _)]
 simp [hi]
theorem pW {a:List UInt8} {i:Nat} {x:UInt8} (ha:a[i]?=some x):aB (a.take (i+1))=aB (a.take i)++[[.int .u8 x.toNat]]:=by
 rw [List.take_add_one,ha];simp [aB]
def gG (n:Nat):UInt8:=([48,49,50,51,52,53,54,55,56,57,97,98,99,100,101,102]:List UInt8).getD n 0
def nG (a:List UInt8):List UInt8:=a.flatMap fun x=>[gG (x.toNat / 16),gG (x.toNat % 16)]
theorem aLo {a:List UInt8} {i:Nat} {x:UInt8} (ha:a[i]?=some x):nG (a.take (i+1))=nG (a.take i)++[gG (x.toNat / 16),gG (x.toNat % 16)]:=by
 rw [List.take_add_one,ha];simp [nG]
theorem xM (a:List UInt8):(nG a).length=2*a.length:=by
 induction a with
 |nil=>rfl
 |cons x a ih=>simp [nG] at ih ⊢;omega
theorem aEE (s:List UInt8):sK (aB s)=some s:=by
 induction s with
 |nil=>rfl
 |cons x s ih=>simp [aB,sK] at ih ⊢;exact ih
theorem eP (s:List UInt8):aKr (.slc 1 (aB s))=out (.d (.str s)):=by
 cases s with
 |nil=>rfl
 |cons x s=>simp only [aKr,aEE];simp [aB]
theorem aWB (x:UInt8):(x.toNat:Int).fdiv 16=((x.toNat / 16:Nat):Int):=by
 rw [Int.fdiv_eq_ediv_of_nonneg _ (by omega)];rfl
theorem aWA (x:UInt8):IntKind.u8.wrap ((x.toBitVec &&& 15#8).toNat:Int)=((x.toNat % 16:Nat):Int):=by
 have h:(x.toBitVec &&& 15#8).toNat=x.toNat % 16:=by
  rw [BitVec.toNat_and]
  exact Nat.and_two_pow_sub_one_eq_mod x.toNat 4
 have:=x.toNat_lt
 rw [h,IntKind.wrap_u8];omega
theorem aNd (s:List UInt8) (u v:UInt8):aB (s++[u,v])=aB s++[[D.int .u8 u.toNat],[D.int .u8 v.toNat]]:=by simp [aB]
theorem aEY (a:List UInt8) (hsz:a.length<=2000000):aC PP GG 32 [.d (.slc 1 (aB a))] (.d (.str (nG a))) [none]:=by
 refine cv Tryz.func32 [.d (.str (nG a))] ?_
 refine u_1 ?_
 refine aN (?_)
 have hw:IntKind.i64.wrap (2*(a.length:Int))=2*a.length:=aA (by omega) (by omega)
 refine u_2 (Y3 @mkA.eq_1 @aM.eq_1 hw) ?_
 refine u_3 ?_
 refine aU (bH (fun n st=>∃ (i:Nat),n=a.length-i/\i<=a.length ∧
  st=⟨[],[(3,.sl 0),(10,.d (.slc 1 (aB a))),(11,.d (.int .i64 a.length)),(12,.d (.int .i64 i))],[(0,.arr 0 0 1 (aB (nG (a.take i))))],1⟩) _ ⟨0,rfl,by omega,rfl⟩ ?_)
 rintro n st ⟨i,rfl,hi,rfl⟩
 refine u_1 ?_
 refine aN (?_)
 refine aO rfl (fun h=>aQ ?_) (fun h=>cR ?_)
 ·simp at h
  have ha:=List.getElem?_eq_getElem h
  generalize a[i]=x at ha
  refine aN (aU (aN ?_))
  refine u_2 ha ?_
  have hl:=xM (a.take i)
  have hl2:(a.take i).length<=a.length:=by simp;omega
  have hx:=x.toNat_lt
  obtain ⟨q,hq⟩:∃ q:Nat,q=x.toNat / 16:=⟨_,rfl⟩
  obtain ⟨r,hr⟩:∃ r:Nat,r=x.toNat % 16:=⟨_,rfl⟩
  have h1:=aWB x
  have h2:=aWA x
  rw [<-hq] at h1
  rw [<-hr] at h2
  simp at h2
  refine u_4 (Y3 h1 h2 @aM.eq_1) ?_
  refine u_5 ?_
  exact ⟨a.length-(i+1),by omega,i+1,rfl,h,by
   simp [gc,bP,cI,gcV,gcO,dS,eH,aY,bR,bU,dU,aLo ha,aNd,gG,<-hq,<-hr]
   rw [aA (by omega) (by omega)]⟩
 ·simp at h
  rw [if_pos rfl]
  refine u_6 (Y2 @eP (List.take_of_length_le h)) ?_
  exact u_7
theorem aIl (a:List UInt8):aC PP GG 12 [.d (.slc 1 (aB a))] (.d (.str (if 2000<a.length then [] else nG a))) [none]:=by
 refine cv Tryz.func12 [.d (.str (if 2000<a.length then [] else nG a))] ?_
 refine u_1 ?_
 refine u_3 ?_
 refine aO rfl (fun h=>aN ?_) (fun hlen=>aQ ?_)
 ·simp at h
  have h':2000<a.length:=by omega
  refine u_5 ?_
  exact u_8 h'
 simp at hlen
 have hn:¬2000<a.length:=by omega
 refine aN (?_)
 apply mQ
 ·intro K hK
  simp
  exact ⟨_,_,aEY a (by omega),by simp;exact hK⟩
 exact u_8 hn
theorem aMb {a:List (List UInt8)} {i:Nat} {x:(List UInt8)} (ha:a[i]?=some x):aK (a.take (i+1))=aK (a.take i)++[[.str x]]:=by
 rw [List.take_add_one,ha];simp [aK]
theorem bD (x lo hi:Int):aC PP GG 20 [.d (.int .i64 x),.d (.int .i64 lo),.d (.int .i64 hi)] (.d (.bool (decide (lo<=x) && decide (x<=hi)))) [none,none,none]:=by
 refine cv Tryz.func20 [.d (.bool (decide (lo<=x) && decide (x<=hi)))] ?_
 refine u_1 ?_
 refine u_9 6 (decide (lo<=x) && decide (x<=hi)) ?_
 exact u_7
theorem aCd (x lo hi:Int):aC PP GG 39 [.d (.int .i64 x),.d (.int .i64 lo),.d (.int .i64 hi)] (.d (.bool (decide (lo<=x) && decide (x<=hi)))) [none,none,none]:=by
 refine cv Tryz.func39 [.d (.bool (decide (lo<=x) && decide (x<=hi)))] ?_
 refine u_1 ?_
 refine u_9 6 (decide (lo<=x) && decide (x<=hi)) ?_
 exact u_7
def aC7 (x:Int):Bool:=decide (-1099511627776<=x) && decide (x<=1099511627776)
def vX (s:List UInt8):Bool:=decide ((s.length:Int)<=300)
def mN (k:Int) (ns:List Int) (ts:List (List UInt8)):Bool:=
 (decide (0<=k) && decide (k<=99)) && (decide ((ns.length:Int)<=40) && (decide ((ts.length:Int)<=40) && (ns.all aC7 && ts.all vX)))
theorem pI (k:Int) (ns:List Int) (ts:List (List UInt8)) (h1:ns.length<=281474976710656) (h2:ts.length<=281474976710656):
  aC PP GG 99 [.agg [.d (.int .i64 k),.d (.slc 1 (bM ns)),.d (.slc 1 (aK ts))]] (.d (.bool (mN k ns ts))) [none]:=by
 refine cv Tryz.func99 [.d (.bool (mN k ns ts))] ?_
 refine u_1 ?_
 refine aWz (Z1 bD) 20 (!(decide (0<=k) && decide (k<=99)) || (decide (40<(ns.length:Int)) || decide (40<(ts.length:Int)))) ?_
 refine aO rfl (fun h=>aN ?_) (fun hc=>aQ ?_)
 ·refine u_5 ?_
  have:mN k ns ts=false:=by
   unfold mN
   simp at h ⊢
   intro a1 a2 a3 a4
   exfalso
   omega
  exact u_8 this
 simp at hc
 obtain ⟨⟨hk1,hk2⟩,hn,ht⟩:=hc
 refine u_3 ?_
 refine aU (bH (fun n st=>∃ i:Nat,n=ns.length-i/\i<=ns.length/\(∀ x,x∈ns.take i->aC7 x=true) ∧
  st=⟨[],[(1,.ptr 0 0),(3,.d (.int .i64 i))],[(0,.box [.d (.int .i64 k),.d (.slc 1 (bM ns)),.d (.slc 1 (aK ts))])],1⟩) _ ⟨0,rfl,by omega,fun x hx=>by simp at hx,rfl⟩ ?_)
 rintro n st ⟨i,rfl,hi,hall,rfl⟩
 refine u_3 ?_
 refine aO rfl (fun h=>aQ ?_) (fun h=>cR ?_)
 ·simp at h
  have ha:=List.getElem?_eq_getElem h
  have hm:=List.getElem_mem h
  generalize ns[i]=x at ha hm
  refine aN (aU (aN ?_))
  apply mQ
  ·intro K hK
   simp [ha]
   repeat' (first|with_reducible exact hK|(with_reducible refine aF (bD _ _ _) ?_;simp [ha])|(with_reducible refine aJ (fun _=>?_) (fun _=>?_)<;>simp [ha])|with_reducible refine And.intro ?_ ?_|with_reducible exact aL rfl|with_reducible assumption|omega)
  refine aO rfl (fun h3=>aN ?_) (fun h3=>aQ ?_)
  ·refine u_5 ?_
   have:mN k ns ts=false:=by
    have:ns.all aC7=false:=by
     rw [List.all_eq_false]
     refine ⟨x,hm,?_⟩
     unfold aC7
     simp at h3 ⊢
     omega
    simp only [mN,this,Bool.false_and,Bool.and_false]
   exact u_8 this
  refine u_5 ?_
  have h3':aC7 x=true:=by unfold aC7;simpa using h3
  refine ⟨ns.length-(i+1),by omega,i+1,rfl,h,fun y hy=>?_,by simp [gc,bP,cI,gcV,gcO,dS,cU,eH,aY,bR,bU,dU];rw [aA (by omega) (by omega)]⟩
  rw [List.take_add_one,ha] at hy
  rcases List.mem_append.1 hy with hy|hy
  ·exact hall y hy
  ·simp at hy;subst hy;exact h3'
 simp at h
 rw [if_pos rfl]
 have hA:ns.all aC7=true:=by
  rw [List.all_eq_true]
  intro x hx
  exact hall x (by rwa [List.take_of_length_le h])
 refine u_3 ?_
 refine aU (bH (fun n st=>∃ i:Nat,n=ts.length-i/\i<=ts.length/\(∀ x,x∈ts.take i->vX x=true) ∧
  st=⟨[],[(1,.ptr 0 0),(4,.d (.int .i64 i))],[(0,.box [.d (.int .i64 k),.d (.slc 1 (bM ns)),.d (.slc 1 (aK ts))])],1⟩) _ ⟨0,rfl,by omega,fun x hx=>by simp at hx,rfl⟩ ?_)
 rintro n st ⟨j,rfl,hj,hallt,rfl⟩
 refine u_3 ?_
 refine aO rfl (fun h=>aQ ?_) (fun h=>cR ?_)
 ·simp at h
  have ha:=List.getElem?_eq_getElem h
  have hm:=List.getElem_mem h
  generalize ts[j]=x at ha hm
  refine aN (aU (aN ?_))
  refine u_2 ha ?_
  refine aO rfl (fun h3=>aN ?_) (fun h3=>aQ ?_)
  ·refine u_5 ?_
   have:mN k ns ts=false:=by
    have:ts.all vX=false:=by
     rw [List.all_eq_false]
     refine ⟨x,hm,?_⟩
     unfold vX
     simp at h3 ⊢
     omega
    simp only [mN,this,Bool.and_false]
   exact u_8 this
  refine u_5 ?_
  have h3':vX x=true:=by unfold vX;simp at h3 ⊢;omega
  refine ⟨ts.length-(j+1),by omega,j+1,rfl,h,fun y hy=>?_,by simp [gc,bP,cI,gcV,gcO,dS,cU,eH,aY,bR,bU,dU];rw [aA (by omega) (by omega)]⟩
  rw [List.take_add_one,ha] at hy
  rcases List.mem_append.1 hy with hy|hy
  ·exact hallt y hy
  ·simp at hy;subst hy;exact h3'
 simp at h
 rw [if_pos rfl]
 have hT:ts.all vX=true:=by
  rw [List.all_eq_true]
  intro x hx
  exact hallt x (by rwa [List.take_of_length_le h])
 refine u_1 ?_
 have:mN k ns ts=true:=by
  simp only [mN,hA,hT,Bool.and_true,Bool.and_eq_true,decide_eq_true_eq]
  exact ⟨⟨hk1,hk2⟩,hn,ht⟩
 exact u_8 this
abbrev qP (k t:Int) (n p d:List UInt8) (m:Int):List C:=[.d (.int .i64 k),.d (.int .i64 t),.d (.str n),.d (.str p),.d (.str d),.d (.int .i64 m)]
abbrev aQB (k:Int) (ns:List Int) (ts:List (List UInt8)):List C:=[.d (.int .i64 k),.d (.slc 1 (bM ns)),.d (.slc 1 (aK ts))]
abbrev aUV (k:Int) (ns:List Int) (ts:List (List UInt8)):List C:=[.d (.int .i64 k),.own 0 1 (bM ns),.own 0 1 (aK ts)]
def aC4 (k:Int) (ns:List Int) (ts:List (List UInt8)):Bool:=mN k ns ts && decide (0<=k/\k<=13/\ns.length=2/\ts.length=3)
theorem aKM {k:Int} {ns:List Int} {ts:List (List UInt8)} (h:aC4 k ns ts=true):∃ t m n p d,ns=[t,m]/\ts=[n,p,d]:=by
 simp only [aC4,Bool.and_eq_true,decide_eq_true_eq] at h
 obtain ⟨_,_,_,h1,h2⟩:=h
 match ns,h1 with
 |[t,m],_=>
  match ts,h2 with
  |[n,p,d],_=>exact ⟨t,m,n,p,d,rfl,rfl⟩
theorem aEe (k:Int) (ns:List Int) (ts:List (List UInt8)) (h1:ns.length<=281474976710656) (h2:ts.length<=281474976710656):
  (aC4 k ns ts=false->aC PP GG 173 [.agg (aQB k ns ts)] (.tup [.agg (qP 0 0 [] [] [] 0),.d (.bool false)]) [none]) ∧
  ∀ t m n p d,ns=[t,m]->ts=[n,p,d]->aC4 k ns ts=true->aC PP GG 173 [.agg (aQB k ns ts)] (.tup [.agg (qP k t n p d m),.d (.bool true)]) [none]:=by
 have c1:=pI k ns ts h1 h2
 have hr:=aC4.eq_1 k ns ts
 generalize mN k ns ts=b1 at c1 hr
 generalize hb:aC4 k ns ts=b at hr
 refine ⟨fun h=>?_,fun t m n p d e1 e2 h=>?_⟩
 ·refine cv Tryz.func173 [.agg (qP 0 0 [] [] [] 0),.d (.bool false)] ?_
  refine u_1 ?_
  refine aN (aN (?_))
  refine pG 24 (!b) (fun K hK=>?_) ?_
  ·simp
   repeat' (first|exact hK _ _ (by clear hK;first|omega|(exact decide_eq_false (by omega))|(exact decide_eq_true (by omega))|(exact (decide_eq_true (by omega)).symm)|(exact (decide_eq_false (by omega)).symm)|(exact decide_eq_decide.2 (by omega))|(simp only [<-decide_not];exact decide_eq_decide.2 (by omega))|(simp [*];done)|(simp [*];omega)|(simp_all;done)|(simp_all;omega)|(rw [Bool.eq_iff_iff];simp at *;omega))|(with_reducible refine aF (bD _ _ _) ?_;simp)|(with_reducible refine aF (c1) ?_;simp)|(with_reducible refine aJ (fun _=>?_) (fun _=>?_)<;>simp)|with_reducible refine And.intro ?_ ?_|with_reducible exact aL rfl|with_reducible assumption|omega)
   exact hK _ _ (by clear hK;cases b1<;>simp_all<;>omega)
  refine aO rfl (fun h=>aN ?_) (fun h=>aQ ?_)
  ·refine u_5 ?_
   exact u_7
  ·simp_all
 ·refine cv Tryz.func173 [.agg (qP k t n p d m),.d (.bool true)] ?_
  refine u_1 ?_
  refine aWz (Z2 bD c1) 24 (!b) ?_
  refine aO rfl (fun h=>aN ?_) (fun h=>aQ ?_)
  ·simp_all
  subst e1 e2
  refine aSz (Y2 @bM.eq_1 @aK.eq_1) ?_
  exact u_7
def aCG (n:Nat):List UInt8:=if h:n=0 then [] else aCG (n / 10)++[UInt8.ofNat (48+n % 10)]
termination_by n
decreasing_by omega
theorem aP8 (n:Nat):IntKind.u8.wrap (IntKind.i64.wrap (48+((n % 10:Nat):Int)))=((UInt8.ofNat (48+n % 10)).toNat:Int):=by
 rw [aA (by omega) (by omega),IntKind.wrap_u8,UInt8.toNat_ofNat']
 have:(48+n % 10) % 2 ^ 8=48+n % 10:=by omega
 rw [this];omega
theorem aCM (v:UInt8):[[D.int .u8 v.toNat]]=aB [v]:=rfl
def aSS (k t m:Int) (n p d:List UInt8):Bool:=(decide (0<=k) && decide (k<=13)) && mN k [t,m] [n,p,d]
def rrK (b:Bool) (k:Int):Int:=if b then k else 0
def rrN (b:Bool) (t m:Int):List Int:=if b then [t,m] else []
def rrT (b:Bool) (n p d:List UInt8):List (List UInt8):=if b then [n,p,d] else []
theorem aEd (k t m:Int) (n p d:List UInt8) (b:Bool) (hb:aSS k t m n p d=b):aC PP GG 77 [.agg (qP k t n p d m)] (.tup [.agg (aUV (rrK b k) (rrN b t m) (rrT b n p d)),.d (.bool b)]) [none]:=by
 refine cv Tryz.func77 [.agg (aUV (rrK b k) (rrN b t m) (rrT b n p d)),.d (.bool b)] ?_
 have c1:=pI k [t,m] [n,p,d] (by simp) (by simp)
 unfold aSS at hb
 generalize mN k [t,m] [n,p,d]=b1 at c1 hb
 simp only [bM,aK,List.map] at c1
 refine u_1 ?_
 refine u_6 @sP.eq_1 ?_
 refine aN (aN (?_))
 generalize he:(decide (0<=k) && decide (k<=13))=e at hb
 have cw:=bD k 0 13
 rw [he] at cw
 refine aSy (Z2 cw c1) 28 (!b) ?_
 refine aO rfl (fun h=>aN ?_) (fun h=>aQ ?_)
 ·simp at h
  subst h
  refine u_5 ?_
  exact u_8 (Y5 @rrK.eq_1 @rrN.eq_1 @rrT.eq_1 @bM.eq_1 @aK.eq_1)
 simp at h
 subst h
 refine u_1 ?_
 exact u_8 (Y5 @rrK.eq_1 @rrN.eq_1 @rrT.eq_1 @bM.eq_1 @aK.eq_1)
theorem aKa (n:Int) (h:aX n):aC PP GG 41 [.d (.int .i64 n)] (.d (.str (Lib.itoa n))) [none]:=by
 refine aTr (rv:=.string ⟨(Lib.itoa n).toArray⟩) ⟨Tryz.f41,Tryz.func41,by kernel_rfl,by kernel_rfl⟩ (fun w Fz=>.str _) fun w hG=>?_
 refine Go.Proofs.YtiejbbcpihpgpaaGreatDoor.Tryz.strconv_Itoa n h.1 h.2 w ?_
 obtain ⟨ob,h1,h2⟩:=hG 2 _ P10.h
 unfold Lib.TabIs World.var?
 rw [show Tryz.prog.globalNamed "internal/strconv.uint64pow10" = some 2 by kernel_rfl]
 simp only [Option.bind_some,h1]
 cases ob with
 |cells cs t fr=>simp only [uN] at h2;rw [h2]
 |_=>exact h2.elim
theorem aE9:∀ n,0<n->aCG n=Lib.decDigits n:=by
 intro n
 induction n using Nat.strongRecOn with
 |_ n ih=>
  intro h
  rw [aCG,dif_neg (by omega),Lib.decDigits]
  by_cases hn:n<10
  ·rw [dif_pos hn]
   have e:n / 10=0:=by omega
   rw [e,aCG,dif_pos rfl,Nat.mod_eq_of_lt hn];rfl
  ·rw [dif_neg hn,ih (n / 10) (by omega) (by omega)]
theorem aPC {n:Nat} (h:n<=9223372036854775808):(aCG n).length<=21:=by
 by_cases h0:n=0
 ·subst h0;rw [aCG];simp
 ·rw [aE9 n (by omega)]
  by_cases h1:n<=9223372036854775807
  ·have:=Lib.itoa_length_le n (by omega) (by omega)
   rw [Lib.itoa_nonneg] at this
   exact this
  ·have:=Lib.itoa_length_le (-(n:Int)) (by omega) (by omega)
   rw [Lib.itoa_neg n (by omega)] at this
   simp at this;omega
theorem kT (x:Int) (hx:aX x):aC PP GG 21 [.d (.int .i64 x)] (.d (.str (Lib.itoa x))) [none]:=by
 refine cv Tryz.func21 [.d (.str (Lib.itoa x))] ?_
 unfold aX at hx
 refine u_1 ?_
 refine u_3 ?_
 refine aO rfl (fun h=>aN ?_) (fun h=>aQ ?_)
 ·simp at h
  subst h
  refine u_5 ?_
  have:Lib.itoa 0=[48]:=by rw [show (0:Int)=((0:Nat):Int) from rfl,Lib.itoa_nonneg,Lib.decDigits];rfl
  exact u_8 this
 simp at h
 obtain ⟨ng,hng⟩:∃ ng,ng=decide (x<0):=⟨_,rfl⟩
 refine u_1 ?_
 refine aN (?_)
 apply mQ
 ·intro K hK
  simp [<-hng]
  repeat' (first|with_reducible exact hK|(with_reducible refine aJ (fun _=>?_) (fun _=>?_)<;>simp [<-hng])|with_reducible refine And.intro ?_ ?_|with_reducible exact aL rfl|with_reducible assumption|omega)
 refine aN (?_)
 refine aU (bH (fun n st=>∃ (m:Nat) (out:List UInt8),n=m/\aCG m++out=aCG x.natAbs/\m<=x.natAbs ∧
  st=⟨[],[(0,.d (.int .i64 (if ng then -(m:Int) else m))),(3,.d (.str out)),(4,.d (.bool ng))],[],0⟩) _ ⟨x.natAbs,[],rfl,by simp,by omega,by
   simp [gc,bP,cI,gcV,gcO,dS,aY,bR,<-hng];cases ng<;>simp at hng ⊢<;>omega⟩ ?_)
 rintro m st ⟨m',out,rfl,he,hm,rfl⟩
 have hl:out.length<=21:=by
  have h1:=aPC (n:=x.natAbs) (by omega)
  rw [<-he] at h1
  simp at h1
  omega
 refine u_3 ?_
 refine aO rfl (fun h2=>aQ ?_) (fun h2=>cR ?_)
 ·have hm0:m≠0:=by rintro rfl;cases ng<;>simp at h2
  have hd:=aP8 m
  obtain ⟨r,hr⟩:∃ r:Nat,r=m % 10:=⟨_,rfl⟩
  obtain ⟨q,hqq⟩:∃ q:Nat,q=m / 10:=⟨_,rfl⟩
  rw [<-hr] at hd
  obtain ⟨v,hv⟩:∃ v,v=UInt8.ofNat (48+r):=⟨_,rfl⟩
  rw [<-hv] at hd
  have fin:aCG q++(v::out)=aCG x.natAbs:=by
   rw [<-he,aCG.eq_1 m,dif_neg hm0,<-hqq,<-hr,<-hv]
   simp
  cases ng with
  |false=>
   have ht:((m:Int).tmod 10)=(r:Int):=by rw [hr];rfl
   have hq:IntKind.i64.wrap ((m:Int).tdiv 10)=(q:Int):=by
    have:(m:Int).tdiv 10=((m / 10:Nat):Int):=rfl
    rw [this,<-hqq];exact aA (by omega) (by omega)
   simp at hq
   refine aU (aN ?_)
   refine u_2 ht ?_
   refine u_3 ?_
   refine aO rfl (fun h3=>?_) (fun h3=>aQ ?_)
   ·simp at h3;omega
   refine u_6 (Y5 hd @sP.eq_1 @aCM @eP @dP.eq_1) ?_
   refine u_2 hq ?_
   exact ⟨q,by omega,q,v::out,rfl,fin,by omega,by simp [gc,bP,cI,gcV,gcO,dS,aY,bR]⟩
  |true=>
   have ht:((-(m:Int)).tmod 10)=-(r:Int):=by rw [Int.neg_tmod,hr];rfl
   have hn:IntKind.i64.wrap (0 - -(r:Int))=(r:Int):=by rw [aA (by omega) (by omega)];omega
   have hq:IntKind.i64.wrap ((-(m:Int)).tdiv 10)=-(q:Int):=by
    have:(-(m:Int)).tdiv 10=-((m / 10:Nat):Int):=by rw [Int.neg_tdiv];rfl
    rw [this,<-hqq];exact aA (by omega) (by omega)
   simp at hn hq
   refine aU (aN ?_)
   refine u_2 ht ?_
   refine u_3 ?_
   refine aO rfl (fun h3=>?_) (fun h3=>aQ ?_)
   ·refine u_2 hn ?_
    refine u_6 (Y5 hd @sP.eq_1 @aCM @eP @dP.eq_1) ?_
    refine u_2 hq ?_
    exact ⟨q,by omega,q,v::out,rfl,fin,by omega,by simp [gc,bP,cI,gcV,gcO,dS,aY,bR]⟩
   have hn2:-(r:Int)=(r:Int):=by simp at h3;omega
   refine u_6 (Y6 hn2 hd @sP.eq_1 @aCM @eP @dP.eq_1) ?_
   refine u_2 hq ?_
   exact ⟨q,by omega,q,v::out,rfl,fin,by omega,by simp [gc,bP,cI,gcV,gcO,dS,aY,bR]⟩
 ·have hm0:m=0:=by cases ng<;>simp at h2<;>omega
  subst hm0
  rw [if_pos rfl]
  have hz:aCG 0=[]:=by rw [aCG];simp
  rw [hz,List.nil_append] at he
  refine u_3 ?_
  refine aO rfl (fun h3=>aN ?_) (fun h3=>aQ ?_)
  ·subst h3
   refine u_2 @dP.eq_1 ?_
   have:Lib.itoa x=45::out:=by
    simp at hng
    unfold Lib.itoa
    rw [if_pos (by omega),he,aE9 _ (by omega)]
   exact u_8 this
  subst h3
  refine u_1 ?_
  have:Lib.itoa x=out:=by
   simp at hng
   unfold Lib.itoa
   rw [if_neg (by omega),he,aE9 _ (by omega)]
   congr 1
   omega
  exact u_8 this
abbrev aWQ (s a w:Int) (t p:List UInt8) (c m:Int):List C:=[.d (.int .i64 s),.d (.int .i64 a),.d (.int .i64 w),.d (.str t),.d (.str p),.d (.int .i64 c),.d (.int .i64 m)]
def dA (l:List UInt8):Nat:=l.foldl (fun p b=>(131*p+b.toNat+1) % 2147483647) 7
def dB (l:List UInt8):Nat:=l.foldl (fun p b=>(137*p+b.toNat+3) % 2147483629) 11
def rZ (l:List UInt8):Int:=2147483648*(dA l:Int)+(dB l:Int)
theorem aRS (l:List UInt8):dA l<2147483647:=by
 rcases List.eq_nil_or_concat l with rfl|⟨r,x,rfl⟩
 ·simp [dA]
 ·simp only [dA,List.concat_eq_append,List.foldl_append,List.foldl_cons,List.foldl_nil];omega
theorem aRR (l:List UInt8):dB l<2147483629:=by
 rcases List.eq_nil_or_concat l with rfl|⟨r,x,rfl⟩
 ·simp [dB]
 ·simp only [dB,List.concat_eq_append,List.foldl_append,List.foldl_cons,List.foldl_nil];omega
theorem aTM {l:List UInt8} {i:Nat} {x:UInt8} (h:l[i]?=some x):dA (l.take (i+1))=(131*dA (l.take i)+x.toNat+1) % 2147483647:=by
 rw [List.take_add_one,h];simp [dA,List.foldl_append]
theorem aTL {l:List UInt8} {i:Nat} {x:UInt8} (h:l[i]?=some x):dB (l.take (i+1))=(137*dB (l.take i)+x.toNat+3) % 2147483629:=by
 rw [List.take_add_one,h];simp [dB,List.foldl_append]
theorem aWG (p:Nat) (x:UInt8) (hp:p<2147483647):(IntKind.i64.wrap (IntKind.i64.wrap (IntKind.i64.wrap (131*(p:Int))+IntKind.i64.wrap (x.toNat:Int))+1)).tmod 2147483647=(((131*p+x.toNat+1) % 2147483647:Nat):Int):=by
 have hx:=x.toNat_lt
 rw [aA (n:=131*(p:Int)) (by omega) (by omega),aA (n:=(x.toNat:Int)) (by omega) (by omega),aA (n:=131*(p:Int)+x.toNat) (by omega) (by omega),aA (by omega) (by omega)]
 rw [Int.tmod_eq_emod_of_nonneg (by omega)]
 omega
theorem aWF (p:Nat) (x:UInt8) (hp:p<2147483629):(IntKind.i64.wrap (IntKind.i64.wrap (IntKind.i64.wrap (137*(p:Int))+IntKind.i64.wrap (x.toNat:Int))+3)).tmod 2147483629=(((137*p+x.toNat+3) % 2147483629:Nat):Int):=by
 have hx:=x.toNat_lt
 rw [aA (n:=137*(p:Int)) (by omega) (by omega),aA (n:=(x.toNat:Int)) (by omega) (by omega),aA (n:=137*(p:Int)+x.toNat) (by omega) (by omega),aA (by omega) (by omega)]
 rw [Int.tmod_eq_emod_of_nonneg (by omega)]
 omega
theorem aVy (l:List UInt8):IntKind.i64.wrap (IntKind.i64.wrap (2147483648*(dA l:Int))+(dB l:Int))=rZ l:=by
 have:=aRS l
 have:=aRR l
 rw [aA (n:=2147483648*(dA l:Int)) (by omega) (by omega),aA (by omega) (by omega)];rfl
theorem tX (a:List UInt8) (ha:a.length<=140737488355328):aC PP GG 133 [.d (.slc 1 (aB a))] (.d (.int .i64 (rZ a))) [none]:=by
 refine cv Tryz.func133 [.d (.int .i64 (rZ a))] ?_
 refine u_1 ?_
 refine u_1 ?_
 refine u_1 ?_
 refine u_3 ?_
 refine aU (bH (fun n st=>∃ (i:Nat),n=a.length-i/\i<=a.length ∧
  st=⟨[],[(0,.d (.slc 1 (aB a))),(3,.d (.int .i64 (dA (a.take i)))),(4,.d (.int .i64 (dB (a.take i)))),(5,.d (.int .i64 i))],[],0⟩) _ ⟨0,rfl,by omega,rfl⟩ ?_)
 rintro n st ⟨i,rfl,hi,rfl⟩
 refine u_3 ?_
 refine aO rfl (fun h=>aQ ?_) (fun h=>cR ?_)
 ·simp at h
  have hx:=List.getElem?_eq_getElem h
  generalize a[i]=x at hx
  have sA:=aWG _ x (aRS (a.take i))
  have sB:=aWF _ x (aRR (a.take i))
  rw [<-aTM hx] at sA
  rw [<-aTL hx] at sB
  refine aN (aU (aN ?_))
  refine u_2 (Y2 hx sA) ?_
  refine u_2 (Y2 hx sB) ?_
  refine u_5 ?_
  exact ⟨a.length-(i+1),by omega,i+1,rfl,h,by
   simp [gc,bP,cI,gcV,gcO,dS,aY,bR]
   rw [aA (by omega) (by omega)]⟩
 ·simp at h
  rw [if_pos rfl]
  refine u_6 (Y2 (List.take_of_length_le h) @aVy) ?_
  exact u_7
def aHz (x s a w:Int) (t p:List UInt8) (c:Int):List UInt8:=Lib.itoa x++[10]++Lib.itoa s++[10]++Lib.itoa a++[10]++Lib.itoa w++[10]++t++[10]++p++[10]++Lib.itoa c
theorem wP {x:Int} (h:aX x):(Lib.itoa x).length<=21:=Lib.itoa_length_le x h.1 h.2
theorem aMi (x s a w:Int) (t p:List UInt8) (c m:Int) (hx:aX x) (hs:aX s) (ha:aX a) (hw:aX w) (hc:aX c) (h1:t.length<=1048576) (h2:p.length<=1048576):
  aC PP GG 170 [.d (.int .i64 x),.agg (aWQ s a w t p c m)] (.d (.int .i64 (rZ (aHz x s a w t p c)))) [none,none]:=by
 refine cv Tryz.func170 [.d (.int .i64 (rZ (aHz x s a w t p c)))] ?_
 have l0:=wP hx
 have l1:=wP hs
 have l2:=wP ha
 have l3:=wP hw
 have l4:=wP hc
 refine u_1 ?_
 refine aWy @dP.eq_1 (Z5 (kT x hx) (kT s hs) (kT a ha) (kT w hw) (kT c hc)) ?_
 have hl:(aHz x s a w t p c).length<=140737488355328:=by unfold aHz;simp;omega
 have e:Lib.itoa x++10::(Lib.itoa s++10::(Lib.itoa a++10::(Lib.itoa w++10::(t++10::(p++10::Lib.itoa c)))))=aHz x s a w t p c:=by simp [aHz]
 refine aP7 e (Z1 (tX (aHz x s a w t p c) hl)) ?_
 exact u_7
theorem aQY (b:UInt8):aC PP GG 66 [.d (.int .u8 b.toNat)] (.d (.int .u8 (b ||| 32).toNat)) [none]:=by
 refine cv Tryz.func66 [.d (.int .u8 (b ||| 32).toNat)] ?_
 have h:IntKind.u8.wrap ((b.toBitVec ||| 32#8).toNat:Int)=((b ||| 32).toNat:Int):=by
  have:=(b ||| 32).toNat_lt
  have e:(b.toBitVec ||| 32#8).toNat=(b ||| 32).toNat:=rfl
  rw [e,IntKind.wrap_u8];omega
 simp at h
 refine u_1 ?_
 refine u_6 h ?_
 exact u_7
def dF {α:Type} (f:α->Nat):List α->Nat
 |[]=>0
 |x::r=>f x+dF f r
theorem aA8 {α:Type} (f:α->Nat) (a b:List α):dF f (a++b)=dF f a+dF f b:=by
 induction a with
 |nil=>simp [dF]
 |cons x a ih=>simp [dF,ih];omega
theorem aOu {α:Type} {f:α->Nat} {a:List α} {x:α} (h:x∈a):f x<=dF f a:=by
 induction a with
 |nil=>simp at h
 |cons y a ih=>
  rcases List.mem_cons.1 h with rfl|h
  ·simp [dF]
  ·have:=ih h;simp [dF];omega
theorem mI {α:Type} {f:α->Nat} {a:List α} {i:Nat} {x:α} (h:a[i]?=some x):f x<=dF f a:=aOu (List.mem_of_getElem? h)
theorem tR {α:Type} {a:List α} {i:Nat} {x:α} (h:a[i]?=some x):a.drop i=x::a.drop (i+1):=by
 obtain ⟨h1,rfl⟩:=List.getElem?_eq_some_iff.1 h
 exact List.drop_eq_getElem_cons h1
structure cW where
 nX:Int
 fAt:Int
 aDL:Int
 sM:List UInt8
 dM:List UInt8
 vN:Int
 aBI:Int
 deriving DecidableEq
@[simp] abbrev cW.row (x:cW):List D:=[.int .i64 x.nX,.int .i64 x.fAt,.int .i64 x.aDL,.str x.sM,.str x.dM,.int .i64 x.vN,.int .i64 x.aBI]
@[simp] abbrev cW.c (x:cW):List C:=[.d (.int .i64 x.nX),.d (.int .i64 x.fAt),.d (.int .i64 x.aDL),.d (.str x.sM),.d (.str x.dM),.d (.int .i64 x.vN),.d (.int .i64 x.aBI)]
@[simp] abbrev cW.o (x:cW):List C:=[.d (.int .i64 x.nX),.d (.int .i64 x.fAt),.d (.int .i64 x.aDL),.d (.str x.sM),.d (.str x.dM),.d (.int .i64 x.vN),.d (.int .i64 x.aBI)]
def fD (l:List cW):List (List D):=l.map cW.row
@[simp] theorem aOL (l:List cW):(fD l).length=l.length:=by simp [fD]
@[simp] theorem aWc (l:List cW) (i:Nat):(fD l)[i]?=(l[i]?).map cW.row:=by simp [fD]
def cW.cost (x:cW):Nat:=x.sM.length+x.dM.length
def cW.ok (x:cW):Prop:=aX x.nX/\aX x.fAt/\aX x.aDL/\x.sM.length<=maxLen/\x.dM.length<=maxLen/\aX x.vN/\aX x.aBI
structure eB where
 jO:Int
 sN:Int
 dY:List cW
 deriving DecidableEq
@[simp] abbrev eB.row (x:eB):List D:=[.int .i64 x.jO,.int .i64 x.sN,.slc 7 (fD x.dY)]
@[simp] abbrev eB.c (x:eB):List C:=[.d (.int .i64 x.jO),.d (.int .i64 x.sN),.d (.slc 7 (fD x.dY))]
@[simp] abbrev eB.o (x:eB):List C:=[.d (.int .i64 x.jO),.d (.int .i64 x.sN),.own 0 7 (fD x.dY)]
def eB.cost (x:eB):Nat:=(x.dY.length+dF cW.cost x.dY)
def eB.ok (x:eB):Prop:=aX x.jO/\aX x.sN/\x.dY.length<=maxLen/\(∀ y,y∈x.dY->y.ok)
structure xB where
 qG:Int
 dI:List UInt8
 aIv:Int
 deriving DecidableEq
@[simp] abbrev xB.row (x:xB):List D:=[.int .i64 x.qG,.slc 1 (aB x.dI),.int .i64 x.aIv]
@[simp] abbrev xB.c (x:xB):List C:=[.d (.int .i64 x.qG),.d (.slc 1 (aB x.dI)),.d (.int .i64 x.aIv)]
@[simp] abbrev xB.o (x:xB):List C:=[.d (.int .i64 x.qG),.own 0 1 (aB x.dI),.d (.int .i64 x.aIv)]
def xB.cost (x:xB):Nat:=x.dI.length
def xB.ok (x:xB):Prop:=aX x.qG/\x.dI.length<=maxLen/\aX x.aIv
structure dK where
 bZ:Int
 bS:Int
 cY:List UInt8
 oW:xB
 deriving DecidableEq
@[simp] abbrev dK.row (x:dK):List D:=[.int .i64 x.bZ,.int .i64 x.bS,.str x.cY,.int .i64 x.oW.qG,.slc 1 (aB x.oW.dI),.int .i64 x.oW.aIv]
@[simp] abbrev dK.c (x:dK):List C:=[.d (.int .i64 x.bZ),.d (.int .i64 x.bS),.d (.str x.cY),.d (.int .i64 x.oW.qG),.d (.slc 1 (aB x.oW.dI)),.d (.int .i64 x.oW.aIv)]
@[simp] abbrev dK.o (x:dK):List C:=[.d (.int .i64 x.bZ),.d (.int .i64 x.bS),.d (.str x.cY),.d (.int .i64 x.oW.qG),.own 0 1 (aB x.oW.dI),.d (.int .i64 x.oW.aIv)]
def jA (l:List dK):List (List D):=l.map dK.row
@[simp] theorem aV6 (l:List dK):(jA l).length=l.length:=by simp [jA]
@[simp] theorem aV7 (l:List dK) (i:Nat):(jA l)[i]?=(l[i]?).map dK.row:=by simp [jA]
def dK.cost (x:dK):Nat:=x.cY.length+x.oW.cost
def dK.ok (x:dK):Prop:=aX x.bZ/\aX x.bS/\x.cY.length<=maxLen/\x.oW.ok
structure dZ where
 jK:Int
 bJ:Int
 cS:List dK
 deriving DecidableEq
@[simp] abbrev dZ.row (x:dZ):List D:=[.int .i64 x.jK,.int .i64 x.bJ,.slc 6 (jA x.cS)]
@[simp] abbrev dZ.c (x:dZ):List C:=[.d (.int .i64 x.jK),.d (.int .i64 x.bJ),.d (.slc 6 (jA x.cS))]
@[simp] abbrev dZ.o (x:dZ):List C:=[.d (.int .i64 x.jK),.d (.int .i64 x.bJ),.own 1 6 (jA x.cS)]
def dZ.cost (x:dZ):Nat:=(x.cS.length+dF dK.cost x.cS)
def dZ.ok (x:dZ):Prop:=aX x.jK/\aX x.bJ/\x.cS.length<=maxLen/\(∀ y,y∈x.cS->y.ok)
structure dX where
 cY:Int
 cL:Int
 aH:List UInt8
 dM:List UInt8
 dI:List UInt8
 qT:Int
 deriving DecidableEq
@[simp] abbrev dX.row (x:dX):List D:=[.int .i64 x.cY,.int .i64 x.cL,.str x.aH,.str x.dM,.str x.dI,.int .i64 x.qT]
@[simp] abbrev dX.c (x:dX):List C:=[.d (.int .i64 x.cY),.d (.int .i64 x.cL),.d (.str x.aH),.d (.str x.dM),.d (.str x.dI),.d (.int .i64 x.qT)]
@[simp] abbrev dX.o (x:dX):List C:=[.d (.int .i64 x.cY),.d (.int .i64 x.cL),.d (.str x.aH),.d (.str x.dM),.d (.str x.dI),.d (.int .i64 x.qT)]
def pR (l:List dX):List (List D):=l.map dX.row
@[simp] theorem aQD (l:List dX):(pR l).length=l.length:=by simp [pR]
@[simp] theorem aEt (l:List dX) (i:Nat):(pR l)[i]?=(l[i]?).map dX.row:=by simp [pR]
def dX.cost (x:dX):Nat:=x.aH.length+x.dM.length+x.dI.length
def dX.ok (x:dX):Prop:=aX x.cY/\aX x.cL/\x.aH.length<=maxLen/\x.dM.length<=maxLen/\x.dI.length<=maxLen/\aX x.qT
def aK6 (b:UInt8):Bool:=decide (97<=b.toNat/\b.toNat<=122\/48<=b.toNat/\b.toNat<=57)
def aSO (b:UInt8):Bool:=decide ((97<=b.toNat/\b.toNat<=122\/48<=b.toNat/\b.toNat<=57)\/b.toNat=45)
def fA (s:List UInt8):Bool:=decide (1<=s.length/\s.length<=12) && s.all aK6
def aBc (s:List UInt8):Bool:=decide (1<=s.length/\s.length<=16) && s.all aSO
def mT (b:UInt8):List (List UInt8)->List (List UInt8)
 |[]=>[]
 |p::ps=>(b::p)::ps
def qR (c:List UInt8):List (List UInt8)->List (List UInt8)
 |[]=>[]
 |p::ps=>(c++p)::ps
def cJ (c:UInt8):List UInt8->List (List UInt8)
 |[]=>[[]]
 |b::r=>if b=c then []::cJ c r else mT b (cJ c r)
theorem jY (c:UInt8) (s:List UInt8):∃ p ps,cJ c s=p::ps:=by
 induction s with
 |nil=>exact ⟨_,_,rfl⟩
 |cons b r ih=>
  obtain ⟨p,ps,h⟩:=ih
  unfold cJ
  split
  ·exact ⟨_,_,rfl⟩
  ·rw [h];exact ⟨_,_,rfl⟩
theorem aDm (c:UInt8) (s:List UInt8):qR [] (cJ c s)=cJ c s:=by
 obtain ⟨p,ps,h⟩:=jY c s
 rw [h];rfl
theorem aLp (c:UInt8) (cur r:List UInt8):qR cur (cJ c (c::r))=cur::qR [] (cJ c r):=by
 rw [aDm,cJ,if_pos rfl];simp [qR]
theorem aIo {c b:UInt8} (h:b≠c) (cur r:List UInt8):qR cur (cJ c (b::r))=qR (cur++[b]) (cJ c r):=by
 obtain ⟨p,ps,e⟩:=jY c r
 rw [cJ,if_neg h,e];simp [mT,qR]
theorem iK (c:UInt8) (s:List UInt8):(cJ c s).length<=s.length+1:=by
 induction s with
 |nil=>simp [cJ]
 |cons b r ih=>
  unfold cJ
  split
  ·simp;exact ih
  ·obtain ⟨p,ps,e⟩:=jY c r
   rw [e] at ih ⊢
   simp [mT] at ih ⊢;omega
theorem kW {c:UInt8}:∀ (s:List UInt8) {p:List UInt8},p∈cJ c s->p.length<=s.length:=by
 intro s
 induction s with
 |nil=>intro p h;simp [cJ] at h;subst h;simp
 |cons b r ih=>
  intro p h
  unfold cJ at h
  split at h
  ·rcases List.mem_cons.1 h with rfl|h
   ·simp
   ·have:=ih h;simp;omega
  ·obtain ⟨q,qs,e⟩:=jY c r
   rw [e] at h ih
   simp only [mT] at h
   rcases List.mem_cons.1 h with rfl|h
   ·have:=ih (List.mem_cons_self ..);simp;omega
   ·have:=ih (List.mem_cons_of_mem _ h);simp;omega
def aGH (l:List (List UInt8)) (i:Nat):Bool:=match l[i]? with|some s=>aBc s || (s==[43]) || (s==[42] && decide (i+1=l.length))|none=>true
def mP (s:List UInt8):Bool:=decide (s.length<=120) && ((List.range (cJ 47 s).length).all (aGH (cJ 47 s)) && decide ((cJ 47 s).length<=8))
def aKv (b:UInt8):Bool:=decide (b.toNat=43\/b.toNat=42)
def gO (s:List UInt8):Bool:=mP s && !s.any aKv
theorem aR5 {α:Type} {p:α->Bool} {l:List α} {i:Nat} {x:α} (h:l[i]?=some x) (hx:p x=false):l.all p=false:=by
 rw [List.all_eq_false];exact ⟨x,List.mem_of_getElem? h,by simp [hx]⟩
theorem aTS {α:Type} {p:α->Bool} {l:List α} {i:Nat} {x:α} (h:l[i]?=some x) (hx:p x=true):l.any p=true:=by
 rw [List.any_eq_true];exact ⟨x,List.mem_of_getElem? h,hx⟩
theorem kO {α:Type} {p:α->Prop} {l:List α} {i:Nat} {x:α} (ha:l[i]?=some x) (hn:∀ y,y∈l.take i->p y) (hx:p x):∀ y,y∈l.take (i+1)->p y:=by
 intro y hy
 rw [List.take_add_one,ha] at hy
 rcases List.mem_append.1 hy with hy|hy
 ·exact hn y hy
 ·simp at hy;subst hy;exact hx
theorem pM {s:List UInt8} {i:Nat} {x:UInt8} (h:s[i]?=some x):s[i]?.getD 0=x:=by rw [h];rfl
theorem lH (s:List UInt8) (hs:s.length<=281474976710656):aC PP GG 98 [.d (.str s)] (.d (.bool (fA s))) [none]:=by
 refine cv Tryz.func98 [.d (.bool (fA s))] ?_
 refine u_1 ?_
 refine u_3 ?_
 refine aU (bH (fun n st=>∃ i:Nat,n=s.length-i/\i<=s.length/\(∀ y,y∈s.take i->aK6 y=true)/\st=⟨[],[(0,.d (.str s)),(3,.d (.int .i64 i))],[],0⟩) _ ⟨0,rfl,by omega,fun y h=>by simp at h,rfl⟩ ?_)
 rintro n st ⟨i,rfl,hi,hn,rfl⟩
 refine u_3 ?_
 refine aO rfl (fun h=>aQ ?_) (fun h=>cR ?_)
 ·simp at h
  have ha:=List.getElem?_eq_getElem h
  generalize s[i]=x at ha
  have hd:=pM ha
  refine aN (aU (aN ?_))
  refine u_2 hd ?_
  obtain ⟨v,hv⟩:∃ v,x.toNat=v:=⟨_,rfl⟩
  have hnb:aK6 x=decide (97<=v/\v<=122\/48<=v/\v<=57):=by rw [<-hv];rfl
  rw [hv]
  refine u_9 29 (decide (¬(97<=v/\v<=122\/48<=v/\v<=57))) ?_
  refine aO rfl (fun h2=>aN ?_) (fun h2=>aQ ?_)
  ·rw [h2]
   refine u_5 ?_
   have:fA s=false:=by
    unfold fA
    rw [aR5 ha (by rw [hnb];exact decide_eq_false (of_decide_eq_true h2)),Bool.and_false]
   exact u_8 this
  rw [h2]
  refine u_5 ?_
  exact ⟨s.length-(i+1),by omega,i+1,rfl,h,kO ha hn (by rw [hnb];exact decide_eq_true (Decidable.not_not.1 (of_decide_eq_false h2))),by simp [gc,bP,cI,gcV,gcO,dS,aY,bR];rw [aA (by omega) (by omega)]⟩
 ·simp at h
  rw [if_pos rfl]
  rw [List.take_of_length_le h] at hn
  refine oK (Z1 (bD s.length 1 12)) ?_
  have:(decide (1<=(s.length:Int)) && decide ((s.length:Int)<=12))=fA s:=by
   unfold fA
   rw [List.all_eq_true.2 hn,Bool.and_true,Bool.eq_iff_iff]
   simp
   omega
  exact u_8 this
theorem aFX (s:List UInt8) (hs:s.length<=281474976710656):aC PP GG 97 [.d (.str s)] (.d (.bool (aBc s))) [none]:=by
 refine cv Tryz.func97 [.d (.bool (aBc s))] ?_
 have cl:=bD s.length 1 16
 obtain ⟨p,hp⟩:∃ p,(decide (1<=(s.length:Int)) && decide ((s.length:Int)<=16))=p:=⟨_,rfl⟩
 have hp2:aBc s=(p && s.all aSO):=by
  unfold aBc
  rw [<-hp]
  congr 1
  rw [Bool.eq_iff_iff];simp;omega
 rw [hp] at cl
 refine u_1 ?_
 refine aD4 (Z1 cl) ?_
 refine aO rfl (fun h=>aN ?_) (fun h=>aQ ?_)
 ·simp at h
  subst h
  refine u_5 ?_
  exact u_8 hp2
 simp at h
 subst h
 refine u_3 ?_
 refine aU (bH (fun n st=>∃ i:Nat,n=s.length-i/\i<=s.length/\(∀ y,y∈s.take i->aSO y=true)/\st=⟨[],[(0,.d (.str s)),(3,.d (.int .i64 i))],[],0⟩) _ ⟨0,rfl,by omega,fun y h=>by simp at h,rfl⟩ ?_)
 rintro n st ⟨i,rfl,hi,hn,rfl⟩
 refine u_3 ?_
 refine aO rfl (fun h=>aQ ?_) (fun h=>cR ?_)
 ·simp at h
  have ha:=List.getElem?_eq_getElem h
  generalize s[i]=x at ha
  have hd:=pM ha
  refine aN (aU (aN ?_))
  refine u_2 hd ?_
  obtain ⟨v,hv⟩:∃ v,x.toNat=v:=⟨_,rfl⟩
  have hnb:aSO x=decide ((97<=v/\v<=122\/48<=v/\v<=57)\/v=45):=by rw [<-hv];rfl
  rw [hv]
  refine u_9 37 (decide (¬((97<=v/\v<=122\/48<=v/\v<=57)\/v=45))) ?_
  refine aO rfl (fun h2=>aN ?_) (fun h2=>aQ ?_)
  ·rw [h2]
   refine u_5 ?_
   have:aBc s=false:=by
    rw [hp2,aR5 ha (by rw [hnb];exact decide_eq_false (of_decide_eq_true h2)),Bool.and_false]
   exact u_8 this
  rw [h2]
  refine u_5 ?_
  exact ⟨s.length-(i+1),by omega,i+1,rfl,h,kO ha hn (by rw [hnb];exact decide_eq_true (Decidable.not_not.1 (of_decide_eq_false h2))),by simp [gc,bP,cI,gcV,gcO,dS,aY,bR];rw [aA (by omega) (by omega)]⟩
 ·simp at h
  rw [if_pos rfl]
  rw [List.take_of_length_le h] at hn
  refine u_1 ?_
  have:aBc s=true:=by rw [hp2,List.all_eq_true.2 hn];rfl
  exact u_8 this
theorem aD6 {s:List UInt8} {a i:Nat} {x:UInt8} (h:s[i]?=some x) (ha:a<=i):(s.take (i+1)).drop a=(s.take i).drop a++[x]:=by
 have hl:=(List.getElem?_eq_some_iff.1 h).1
 rw [List.take_add_one,h,List.drop_append_of_le_length (by rw [List.length_take];omega)];rfl
theorem fP (s:List UInt8) (c:UInt8) (hs:s.length<=4194304):aC PP GG 35 [.d (.str s),.d (.int .u8 c.toNat)] (.own 0 1 (aK (cJ c s))) [none,none]:=by
 refine cv Tryz.func35 [.own 0 1 (aK (cJ c s))] ?_
 refine u_1 ?_
 refine u_6 @sP.eq_1 ?_
 refine u_1 ?_
 refine u_3 ?_
 refine aU (bH (fun n st=>∃ (i a:Nat) (o:List (List UInt8)),n=s.length+1-i/\o.length<=i/\a<=i/\(i<=s.length/\cJ c s=o++qR ((s.take i).drop a) (cJ c (s.drop i))\/i=s.length+1/\cJ c s=o) ∧
  st=⟨[],[(0,.d (.str s)),(1,.d (.int .u8 c.toNat)),(5,.sl 0),(6,.d (.int .i64 a)),(7,.d (.int .i64 i))],[(0,.arr 0 0 1 (aK o))],1⟩) _ ⟨0,0,[],rfl,by simp,by omega,.inl ⟨by omega,by simp [aDm]⟩,rfl⟩ ?_)
 rintro n st ⟨i,a,o,rfl,hol,hai,hinv,rfl⟩
 refine u_3 ?_
 refine aO rfl (fun h=>aQ ?_) (fun h=>cR ?_)
 ·rw [h]
  simp at h
  obtain ⟨_,hcut⟩:=hinv.resolve_right (by omega)
  clear hinv
  have hw:IntKind.i64.wrap ((i:Int)+1)=((i+1:Nat):Int):=by rw [aA (by omega) (by omega)];omega
  have t1:((a:Int)).toNat=a:=by omega
  have t2:((i:Int)).toNat=i:=by omega
  refine aN (aU (aN ?_))
  by_cases hend:i=s.length
  ·subst hend
   refine aSx 25 (true) ?_
   refine aO rfl (fun h2=>aN ?_) (fun h2=>?_)
   rotate_left
   ·cases h2
   refine u_2 (Y3 t1 t2 @aM.eq_1) ?_
   refine u_2 hw ?_
   refine u_2 hw ?_
   refine ⟨s.length+1-(s.length+1),by omega,s.length+1,s.length+1,o++[(s.take s.length).drop a],rfl,by simp;omega,by omega,.inr ⟨by omega,?_⟩,by simp [gc,bP,cI,gcV,gcO,dS,eH,aY,bR,bU,dU,aK]⟩
   rw [hcut,List.drop_length]
   simp [cJ,qR]
  ·have ha:=List.getElem?_eq_getElem (show i<s.length by omega)
   generalize s[i]'_=x at ha
   have hd:=pM ha
   have hdr:=tR ha
   by_cases hx:x=c
   ·subst hx
    refine aSw hd 25 (true) ?_
    refine aO rfl (fun h2=>aN ?_) (fun h2=>?_)
    rotate_left
    ·cases h2
    refine u_2 (Y3 t1 t2 @aM.eq_1) ?_
    refine u_2 hw ?_
    refine u_2 hw ?_
    refine ⟨s.length+1-(i+1),by omega,i+1,i+1,o++[(s.take i).drop a],rfl,by simp;omega,by omega,.inl ⟨by omega,?_⟩,by simp [gc,bP,cI,gcV,gcO,dS,eH,aY,bR,bU,dU,aK]⟩
    have hnil:(s.take (i+1)).drop (i+1)=[]:=List.drop_eq_nil_of_le (by rw [List.length_take];omega)
    rw [hcut,hdr,aLp,hnil]
    simp
   ·have hx2:x.toNat≠c.toNat:=fun e=>hx (UInt8.toNat_inj.1 e)
    refine aSw hd 25 (false) ?_
    refine aO rfl (fun h2=>?_) (fun h2=>aQ ?_)
    ·cases h2
    refine u_2 hw ?_
    refine ⟨s.length+1-(i+1),by omega,i+1,a,o,rfl,by omega,by omega,.inl ⟨by omega,?_⟩,by simp [gc,bP,cI,gcV,gcO,dS,eH,aY,bR,bU,dU,aK]⟩
    rw [hcut,hdr,aIo hx,aD6 ha hai]
 ·simp at h
  obtain ⟨_,hcut⟩:=hinv.resolve_left (by omega)
  rw [if_pos rfl]
  subst hcut
  refine u_1 ?_
  exact u_7
theorem wD {p:Nat->Bool} {n i:Nat} (h:i<n) (hp:p i=false):(List.range n).all p=false:=by
 rw [List.all_eq_false];exact ⟨i,by simpa using h,by simp [hp]⟩
theorem pP (s:List UInt8) (hs:s.length<=4194304):aC PP GG 73 [.d (.str s)] (.d (.bool (mP s))) [none]:=by
 refine cv Tryz.func73 [.d (.bool (mP s))] ?_
 refine u_1 ?_
 refine u_3 ?_
 refine aO rfl (fun h=>aN ?_) (fun h=>aQ ?_)
 ·simp at h
  refine u_5 ?_
  have:mP s=false:=by unfold mP;rw [decide_eq_false (by omega)];rfl
  exact u_8 this
 simp at h
 have cp:aC PP GG 35 [.d (.str s),.d (.int .u8 47)] (.own 0 1 (aK (cJ 47 s))) [none,none]:=fP s 47 hs
 have hg:mP s=((List.range (cJ 47 s).length).all (aGH (cJ 47 s)) && decide ((cJ 47 s).length<=8)):=by unfold mP;rw [decide_eq_true (by omega)];rfl
 have hml:∀ x,x∈cJ 47 s->x.length<=4194304:=fun x hx=>by have:=kW s hx;omega
 have hll:=iK 47 s
 generalize cJ 47 s=l at cp hg hml hll
 refine oK (Z1 cp) ?_
 refine u_3 ?_
 refine aU (bH (fun n st=>∃ i:Nat,n=l.length-i/\i<=l.length/\(∀ j,j<i->aGH l j=true)/\st=⟨[],[(3,.sl 0),(4,.d (.int .i64 i))],[(0,.arr 0 0 1 (aK l))],1⟩) _ ⟨0,rfl,by omega,fun j h=>by omega,rfl⟩ ?_)
 rintro n st ⟨i,rfl,hi,hn,rfl⟩
 refine u_3 ?_
 refine aO rfl (fun h=>aQ ?_) (fun h=>cR ?_)
 ·simp at h
  have ha:=List.getElem?_eq_getElem h
  generalize l[i]=x at ha
  have ct:=aFX x (by have:=hml x (List.mem_of_getElem? ha);omega)
  have hseg:aGH l i=(aBc x || (x==[43]) || (x==[42] && decide (i+1=l.length))):=by unfold aGH;rw [ha]
  obtain ⟨p,hp⟩:∃ p,aBc x=p:=⟨_,rfl⟩
  obtain ⟨u,hu⟩:∃ p,(x==[43])=p:=⟨_,rfl⟩
  obtain ⟨w,hw⟩:∃ p,(x==[42])=p:=⟨_,rfl⟩
  rw [hp] at ct
  rw [hp,hu,hw] at hseg
  have hwl:IntKind.i64.wrap ((l.length:Int)-1)=(l.length:Int)-1:=aA (by omega) (by omega)
  obtain ⟨z,hz⟩:∃ z,decide ((i:Int)=(l.length:Int)-1)=z:=⟨_,rfl⟩
  have hz2:decide (i+1=l.length)=z:=by rw [<-hz];exact decide_eq_decide.2 (by omega)
  rw [hz2] at hseg
  have hzb:((i:Int)==(l.length:Int)-1)=z:=by rw [<-hz];rfl
  refine aN (aU (aN ?_))
  refine pG 43 (!(p || u || (w && z))) (fun K hK=>?_) ?_
  ·simp [ha,hu,hw,hwl,hzb]
   repeat' (first|exact hK _ _ (by clear hK;first|omega|(exact decide_eq_false (by omega))|(exact decide_eq_true (by omega))|(exact (decide_eq_true (by omega)).symm)|(exact (decide_eq_false (by omega)).symm)|(exact decide_eq_decide.2 (by omega))|(simp only [<-decide_not];exact decide_eq_decide.2 (by omega))|(simp [*];done)|(simp [*];omega)|(simp_all;done)|(simp_all;omega)|(rw [Bool.eq_iff_iff];simp at *;omega))|(with_reducible refine aF (ct) ?_;simp [ha,hu,hw,hwl,hzb])|(with_reducible refine aJ (fun _=>?_) (fun _=>?_)<;>simp [ha,hu,hw,hwl,hzb])|with_reducible refine And.intro ?_ ?_|with_reducible exact aL rfl|with_reducible assumption|omega)
  refine aO rfl (fun h2=>aN ?_) (fun h2=>aQ ?_)
  ·refine u_5 ?_
   have:mP s=false:=by
    rw [hg,wD (i:=i) (by omega) (by rw [hseg];generalize (p || u || (w && z))=q at h2 ⊢;cases q<;>simp_all),Bool.false_and]
   exact u_8 this
  refine u_5 ?_
  refine ⟨l.length-(i+1),by omega,i+1,rfl,h,fun j hj=>?_,by simp [gc,bP,cI,gcV,gcO,dS,eH,aY,bR,bU,dU];rw [aA (by omega) (by omega)]⟩
  by_cases e:j=i
  ·subst e;rw [hseg];generalize (p || u || (w && z))=q at h2 ⊢;cases q<;>simp_all
  ·exact hn j (by omega)
 ·simp at h
  rw [if_pos rfl]
  have hall:(List.range l.length).all (aGH l)=true:=List.all_eq_true.2 fun j hj=>hn j (by have:=List.mem_range.1 hj;omega)
  refine u_1 ?_
  have:mP s=decide ((l.length:Int)<=8):=by rw [hg,hall,Bool.true_and];exact decide_eq_decide.2 (by omega)
  exact u_8 this
theorem gF (s:List UInt8) (hs:s.length<=4194304):aC PP GG 113 [.d (.str s)] (.d (.bool (gO s))) [none]:=by
 refine cv Tryz.func113 [.d (.bool (gO s))] ?_
 have cg:=pP s hs
 have hp:gO s=(mP s && !s.any aKv):=rfl
 generalize mP s=g at cg hp
 refine u_1 ?_
 refine aD4 (Z1 cg) ?_
 refine aO rfl (fun h=>aN ?_) (fun h=>aQ ?_)
 ·simp at h
  subst h
  refine u_5 ?_
  exact u_8 hp
 simp at h
 subst h
 refine u_3 ?_
 refine aU (bH (fun n st=>∃ i:Nat,n=s.length-i/\i<=s.length/\(∀ y,y∈s.take i->aKv y=false)/\st=⟨[],[(0,.d (.str s)),(3,.d (.int .i64 i))],[],0⟩) _ ⟨0,rfl,by omega,fun y h=>by simp at h,rfl⟩ ?_)
 rintro n st ⟨i,rfl,hi,hn,rfl⟩
 refine u_3 ?_
 refine aO rfl (fun h=>aQ ?_) (fun h=>cR ?_)
 ·simp at h
  have ha:=List.getElem?_eq_getElem h
  generalize s[i]=x at ha
  have hd:=pM ha
  obtain ⟨v,hv⟩:∃ v,x.toNat=v:=⟨_,rfl⟩
  have hnb:aKv x=decide (v=43\/v=42):=by rw [<-hv];rfl
  refine aN (aU (aN ?_))
  refine aSw (Y2 hd hv) 22 (decide (v=43\/v=42)) ?_
  refine aO rfl (fun h2=>aN ?_) (fun h2=>aQ ?_)
  ·rw [h2]
   refine u_5 ?_
   have:gO s=false:=by rw [hp,aTS ha (by rw [hnb];exact h2)];rfl
   exact u_8 this
  rw [h2]
  refine u_5 ?_
  exact ⟨s.length-(i+1),by omega,i+1,rfl,h,kO ha hn (by rw [hnb];exact h2),by simp [gc,bP,cI,gcV,gcO,dS,aY,bR];rw [aA (by omega) (by omega)]⟩
 ·simp at h
  rw [if_pos rfl]
  rw [List.take_of_length_le h] at hn
  refine u_1 ?_
  have:gO s=true:=by
   have e:s.any aKv=false:=by rw [List.any_eq_false];intro y hy;simp [hn y hy]
   rw [hp,e];rfl
  exact u_8 this
theorem aKz {b c:UInt8} (h:b≠c):∀ (k:Nat) (l:List UInt8),Lib.splitK [c] 0 k (b::l)=mT b (Lib.splitK [c] 0 k l):=by
 intro k l
 cases k with
 |zero=>rfl
 |succ k=>
  have hp:([c]:List UInt8).isPrefixOf (b::l)=false:=by simp [List.isPrefixOf,Ne.symm h]
  have hix:Lib.index (b::l) [c]=if Lib.index l [c]==-1 then -1 else Lib.index l [c]+1:=by rw [Lib.index,hp];simp
  unfold Lib.splitK
  rw [hix]
  have hge:=Lib.index_ge l [c]
  by_cases hm:Lib.index l [c]=-1
  ·rw [hm];simp [mT]
  ·obtain ⟨j,hj⟩:∃ j:Nat,Lib.index l [c]=j:=⟨(Lib.index l [c]).toNat,by omega⟩
   have h1:¬((j:Int)==-1)=true:=fun e=>by have:=beq_iff_eq.1 e;omega
   have h2:¬((j:Int)+1==-1)=true:=fun e=>by have:=beq_iff_eq.1 e;omega
   rw [hj,if_neg h1,if_neg h1,if_neg h2]
   have e1:((j:Int)+1).toNat=j+1:=by omega
   simp [mT,e1]
theorem aOw (c:UInt8):∀ s:List UInt8,Lib.splitK [c] 0 (Lib.count s [c]) s=cJ c s:=by
 intro s
 induction s with
 |nil=>rw [Lib.count_one];rfl
 |cons b r ih=>
  by_cases h:b=c
  ·subst h
   have hix:Lib.index (b::r) [b]=0:=by rw [Lib.index];simp [List.isPrefixOf]
   rw [Lib.count_cons_eq,show 1+Lib.count r [b]=Lib.count r [b]+1 by omega,Lib.splitK,hix,cJ,if_pos rfl]
   simp [ih]
  ·rw [Lib.count_cons_ne b c r h,aKz h,ih,cJ,if_neg h]
theorem aLW (s:List UInt8) (c:UInt8) (hs:s.length<4294967281):aC PP GG 45 [.d (.str s),.d (.str [c])] (.d (.slc 1 (aK (cJ c s)))) [none,none]:=by
 refine aBx [.str s,.str [c]] ⟨Tryz.f45,Tryz.func45,by kernel_rfl,by kernel_rfl⟩ fun w Fz args hG hFz hl hA=>?_
 have e:args=#[.string ⟨s.toArray⟩,.string ⟨#[c]⟩]:=by
  refine aDY (l:=[.string ⟨s.toArray⟩,.string ⟨#[c]⟩]) hl fun i v hv=>?_
  match i,hv with
  |0,hv=>cases hv;exact aBb (hA 0 _ rfl)
  |1,hv=>cases hv;exact aBb (hA 1 _ rfl)
 subst e
 obtain ⟨ob,h1,h2⟩:=hG 3 _ MaxL.h
 cases ob with
 |cells cs t fr=>
  obtain ⟨m,h3⟩:=h2
  refine (Go.Proofs.YtiejbbcpihpgpaaGreatDoor.Tryz.strings_Split ⟨s.toArray⟩ ⟨#[c]⟩ m w hs (by unfold World.cell?;simp [h1,h3]) (Nat.le_refl 1)).mono ?_
  rintro e w' ⟨rfl,rfl⟩
  have hcount:Lib.countB ⟨s.toArray⟩ ⟨#[c]⟩=Lib.count s [c]:=rfl
  have hsplit:(Lib.splitB ⟨#[c]⟩ 0 (Lib.countB ⟨s.toArray⟩ ⟨#[c]⟩) ⟨s.toArray⟩).map (·.data.toList)=cJ c s:=by
   rw [Lib.splitB_data,hcount];exact aOw c s
  have hlen:(cJ c s).length=Lib.countB ⟨s.toArray⟩ ⟨#[c]⟩+1:=by
   rw [<-hsplit,List.length_map,Lib.splitB_all ⟨#[c]⟩ (Nat.le_refl 1) 0 _ _ rfl]
  generalize Lib.countB ⟨s.toArray⟩ ⟨#[c]⟩=k at hsplit hlen ⊢
  generalize hL:Lib.splitB ⟨#[c]⟩ 0 k ⟨s.toArray⟩=L at hsplit ⊢
  have hLl:L.length=k+1:=by rw [<-hlen,<-hsplit,List.length_map]
  have hblk:∀ b,b<w.heap.size->(w.alloc (.cells (L.map Value.string).toArray 9)).heap[b]?=w.heap[b]?:=fun b hb=>by
   show (w.heap.push _)[b]?=_
   rw [Array.getElem?_push_lt hb,Array.getElem?_eq_getElem hb]
  have hnew:(w.alloc (.cells (L.map Value.string).toArray 9)).heap[w.heap.size]?=some (.cells (L.map Value.string).toArray 9):=by
   show (w.heap.push _)[w.heap.size]?=_
   simp
  have hsz:(w.alloc (.cells (L.map Value.string).toArray 9)).heap.size=w.heap.size+1:=by
   show (w.heap.push _).size=_
   simp
  refine ⟨_,fun b o=>Fz b o\/b=w.heap.size,fun _ _=>False,rfl,⟨rfl,rfl⟩,by omega,hblk,fun _ _ h=>.inl h,fun b o h=>?_,.d _ _ _ ?_ fun _ _ h=>h,fun _ _ h=>h.elim⟩
  ·rcases h with h|h
   ·exact ⟨.inl h,by have:=hFz b o h;omega⟩
   ·exact ⟨.inr (by omega),by omega⟩
  ·have hrows:(aK (cJ c s)).length=k+1:=by simp [hlen]
   have hget:∀ (m:Nat) (d:D),(aK (cJ c s)).flatten[m]?=some d->∃ t:ByteArray,L[m]?=some t/\d=D.str t.data.toList:=by
    intro m d hm
    rw [<-hsplit] at hm
    have hf:(aK (L.map (·.data.toList))).flatten=L.map fun t=>D.str t.data.toList:=by
     unfold aK
     generalize L=M
     induction M with
     |nil=>rfl
     |cons x M ih=>simp only [List.map_cons,List.flatten_cons] at ih ⊢;rw [ih];rfl
    rw [hf,List.getElem?_map] at hm
    cases ht:L[m]? with
    |none=>rw [ht] at hm;cases hm
    |some t=>rw [ht] at hm;cases hm;exact ⟨t,rfl,rfl⟩
   have hcell:∀ (m:Nat) (t:ByteArray),L[m]?=some t->(w.alloc (.cells (L.map Value.string).toArray 9)).cell? (at_ w.heap.size (0+m))=some (.string t):=by
    intro m t ht
    unfold World.cell?
    rw [show (at_ w.heap.size (0+m)).block=w.heap.size from rfl,hnew]
    simp [ht]
   have:=Shr.slc (w:=w.alloc (.cells (L.map Value.string).toArray 9)) (Fz:=fun b o=>Fz b o\/b=w.heap.size) w.heap.size 0 (k+1) 1 (aK (cJ c s)) (fun m=>match L[m]? with|some t=>.string t|none=>Go.undef)
    (fun r hr=>by unfold aK at hr;obtain ⟨x,_,rfl⟩:=List.mem_map.1 hr;rfl) (by omega)
    (fun m d hm=>by
     obtain ⟨t,ht,_⟩:=hget m d hm
     exact ⟨by rw [hcell m t ht,ht],.inr rfl⟩)
    (fun m d hm=>by
     obtain ⟨t,ht,rfl⟩:=hget m d hm
     rw [ht]
     exact Shr.str t.data.toList)
   rw [hrows] at this
   exact this
 |_=>exact h2.elim
def inB (x lo hi:Int):Bool:=decide (lo<=x) && decide (x<=hi)
def lT (x:Int):Bool:=inB x 0 1099511627776
def wJ (x:cW):Bool:=inB x.nX 1 1000000000 && inB x.fAt 0 1000000000 && inB x.aDL 0 1000000000 && fA x.sM && gO x.dM && inB x.vN 0 99
def aUe (y x:cW):Bool:=decide (x.nX=y.nX+1/\y.fAt<=x.fAt)
def sQ (l:List cW) (i:Nat):Bool:=match l[i]? with
 |none=>true
 |some x=>wJ x && (match i with|0=>true|j+1=>match l[j]? with|some y=>aUe y x|none=>true)
def fQ (c:eB):Bool:=decide (0<=c.jO) && lT c.sN && decide (c.dY.length<=120) && (List.range c.dY.length).all (sQ c.dY)
theorem iI (x:Int):aC PP GG 116 [.d (.int .i64 x)] (.d (.bool (lT x))) [none]:=by
 refine cv Tryz.func116 [.d (.bool (lT x))] ?_
 have cl:aC PP GG 20 [.d (.int .i64 x),.d (.int .i64 0),.d (.int .i64 1099511627776)] (.d (.bool (lT x))) [none,none,none]:=bD x 0 1099511627776
 refine u_1 ?_
 refine oK (Z1 cl) ?_
 exact u_7
theorem uQ {x:cW} (h:wJ x=true):1<=x.nX/\x.nX<=1000000000:=by
 simp only [wJ,inB,Bool.and_eq_true,decide_eq_true_eq] at h
 exact h.1.1.1.1.1
theorem aGT {l:List cW} {j:Nat} {y:cW} (h:sQ l j=true) (hy:l[j]?=some y):wJ y=true:=by
 unfold sQ at h
 rw [hy] at h
 simp only [Bool.and_eq_true] at h
 exact h.1
theorem uJ {p:Nat->Bool} {i:Nat} (hn:∀ j,j<i->p j=true) (h:p i=true):∀ j,j<i+1->p j=true:=fun j hj=>by
 by_cases e:j=i
 ·subst e;exact h
 ·exact hn j (by omega)
theorem uH (c:eB) (hc:c.cost<=4194304):aC PP GG 169 [.agg c.c] (.d (.bool (fQ c))) [none]:=by
 refine cv Tryz.func169 [.d (.bool (fQ c))] ?_
 obtain ⟨f,k,l⟩:=c
 have hco:(eB.mk f k l).cost=l.length+dF cW.cost l:=rfl
 have ck:=iI k
 have hr:fQ (eB.mk f k l)=(decide (0<=f) && lT k && decide (l.length<=120) && (List.range l.length).all (sQ l)):=rfl
 generalize lT k=p at ck hr
 obtain ⟨u,hu⟩:∃ u,decide (0<=f)=u:=⟨_,rfl⟩
 obtain ⟨v,hv⟩:∃ v,decide (l.length<=120)=v:=⟨_,rfl⟩
 have hu2:decide (f<0)=!u:=by rw [<-hu,<-decide_not];exact decide_eq_decide.2 (by omega)
 have hv2:decide (120<(l.length:Int))=!v:=by rw [<-hv,<-decide_not];exact decide_eq_decide.2 (by omega)
 rw [hu,hv] at hr
 refine u_1 ?_
 refine aP6 (Y2 hu2 hv2) (Z1 ck) 19 (!(u && p && v)) ?_
 refine aO rfl (fun h=>aN ?_) (fun h=>aQ ?_)
 ·refine u_5 ?_
  have:fQ (eB.mk f k l)=false:=by rw [hr];revert h;cases u<;>cases p<;>cases v<;>simp
  exact u_8 this
 have hr2:fQ (eB.mk f k l)=(List.range l.length).all (sQ l):=by rw [hr];revert h;cases u<;>cases p<;>cases v<;>simp
 refine u_3 ?_
 refine aU (bH (fun n st=>∃ i:Nat,n=l.length-i/\i<=l.length/\(∀ j,j<i->sQ l j=true) ∧
  st=⟨[],[(1,.ptr 0 0),(3,.d (.int .i64 i))],[(0,.box [.d (.int .i64 f),.d (.int .i64 k),.d (.slc 7 (fD l))])],1⟩) _ ⟨0,rfl,by omega,fun j h=>by omega,rfl⟩ ?_)
 rintro n st ⟨i,rfl,hi,hn,rfl⟩
 refine u_3 ?_
 refine aO rfl (fun h2=>aQ ?_) (fun h2=>cR ?_)
 ·simp at h2
  have ha:=List.getElem?_eq_getElem h2
  generalize l[i]=x at ha
  have hg:=mI (f:=cW.cost) ha
  have hcx:x.cost=x.sM.length+x.dM.length:=rfl
  refine aN (aU (aN ?_))
  refine u_2 ha ?_
  have c1:aC PP GG 20 [.d (.int .i64 x.nX),.d (.int .i64 1),.d (.int .i64 1000000000)] (.d (.bool (inB x.nX 1 1000000000))) [none,none,none]:=bD _ _ _
  have c2:aC PP GG 20 [.d (.int .i64 x.fAt),.d (.int .i64 0),.d (.int .i64 1000000000)] (.d (.bool (inB x.fAt 0 1000000000))) [none,none,none]:=bD _ _ _
  have c3:aC PP GG 20 [.d (.int .i64 x.aDL),.d (.int .i64 0),.d (.int .i64 1000000000)] (.d (.bool (inB x.aDL 0 1000000000))) [none,none,none]:=bD _ _ _
  have c4:=lH x.sM (by omega)
  have c5:=gF x.dM (by omega)
  have c6:aC PP GG 20 [.d (.int .i64 x.vN),.d (.int .i64 0),.d (.int .i64 99)] (.d (.bool (inB x.vN 0 99))) [none,none,none]:=bD _ _ _
  have hno:wJ x=(inB x.nX 1 1000000000 && inB x.fAt 0 1000000000 && inB x.aDL 0 1000000000 && fA x.sM && gO x.dM && inB x.vN 0 99):=rfl
  generalize inB x.nX 1 1000000000=p1 at c1 hno
  generalize inB x.fAt 0 1000000000=p2 at c2 hno
  generalize inB x.aDL 0 1000000000=p3 at c3 hno
  generalize fA x.sM=p4 at c4 hno
  generalize gO x.dM=p5 at c5 hno
  generalize inB x.vN 0 99=p6 at c6 hno
  refine aWx (Z6 c1 c2 c3 c4 c5 c6) 65 (!(p1 && p2 && p3 && p4 && p5 && p6)) ?_
  rw [<-hno]
  clear c1 c2 c3 c4 c5 c6
  generalize hq:wJ x=q
  refine aO rfl (fun h3=>aN ?_) (fun h3=>aQ ?_)
  ·refine u_5 ?_
   have:fQ (eB.mk f k l)=false:=by
    rw [hr2]
    exact wD (i:=i) (by omega) (by unfold sQ;rw [ha];simp only;rw [hq];revert h3;cases q<;>simp)
   exact u_8 this
  have hq1:q=true:=by revert h3;cases q<;>simp
  subst hq1
  cases i with
  |zero=>
   refine aWw ha 92 (false) ?_
   refine aO rfl (fun h4=>?_) (fun h4=>aQ ?_)
   ·cases h4
   refine u_5 ?_
   exact ⟨l.length-(0+1),by omega,0+1,rfl,h2,uJ hn (by unfold sQ;rw [ha];simp only;rw [hq];rfl),by simp [gc,bP,cI,gcV,gcO,dS,cU,eH,aY,bR,bU,dU];exact aA (by omega) (by omega)⟩
  |succ j=>
   have hb:=List.getElem?_eq_getElem (show j<l.length by omega)
   generalize l[j]'_=y at hb
   have hy:=uQ (aGT (hn j (by omega)) hb)
   have hw1:IntKind.i64.wrap (j:Int)=j:=aA (by omega) (by omega)
   have hw2:IntKind.i64.wrap (y.nX+1)=y.nX+1:=aA (by omega) (by omega)
   have hlk:sQ l (j+1)=decide (x.nX=y.nX+1/\y.fAt<=x.fAt):=by unfold sQ;rw [ha];simp only [hq,hb,aUe,Bool.true_and]
   have hlt:j<l.length:=by omega
   refine aWw (Y4 ha hb hw1 hw2) 92 (decide (¬(x.nX=y.nX+1/\y.fAt<=x.fAt))) ?_
   refine aO rfl (fun h4=>aN ?_) (fun h4=>aQ ?_)
   ·rw [h4]
    refine u_5 ?_
    have:fQ (eB.mk f k l)=false:=by
     rw [hr2]
     exact wD (i:=j+1) (by omega) (by rw [hlk];exact decide_eq_false (of_decide_eq_true h4))
    exact u_8 this
   rw [h4]
   refine u_5 ?_
   refine ⟨l.length-(j+1+1),by omega,j+1+1,rfl,h2,uJ hn (by rw [hlk];exact decide_eq_true (Decidable.not_not.1 (of_decide_eq_false h4))),?_⟩
   simp [gc,bP,cI,gcV,gcO,dS,cU,eH,aY,bR,bU,dU]
   rw [aA (by omega) (by omega)]
 ·simp at h2
  rw [if_pos rfl]
  refine u_1 ?_
  have:fQ (eB.mk f k l)=true:=by
   rw [hr2];exact List.all_eq_true.2 fun j hj=>hn j (by have:=List.mem_range.1 hj;omega)
  exact u_8 this
def aNY (c:eB):Int:=if fQ c=true then (match c.dY.getLast? with|some x=>x.aBI|none=>c.jO) else -1
theorem aQ8 {α:Type} {l:List α} {x:α} {n:Nat} (h:l.length=n+1) (hx:l[n]?=some x):l.getLast?=some x:=by
 rw [List.getLast?_eq_getElem?,h];exact hx
theorem aKG (c:eB) (hc:c.cost<=1048576):aC PP GG 171 [.agg c.c] (.d (.int .i64 (aNY c))) [none]:=by
 refine cv Tryz.func171 [.d (.int .i64 (aNY c))] ?_
 have cc:=uH c (by omega)
 have hr:aNY c=if fQ c=true then (match c.dY.getLast? with|some x=>x.aBI|none=>c.jO) else -1:=rfl
 obtain ⟨f,k,l⟩:=c
 have hco:(eB.mk f k l).cost=l.length+dF cW.cost l:=rfl
 generalize fQ (eB.mk f k l)=b at cc hr
 simp only at hr
 refine u_1 ?_
 refine aD4 (Z1 cc) ?_
 refine aO rfl (fun h=>aN ?_) (fun h=>aQ ?_)
 ·simp at h
  subst h
  refine u_5 ?_
  rw [if_neg (by simp)] at hr
  exact u_8 hr
 simp at h
 subst h
 rw [if_pos rfl] at hr
 cases hl:l with
 |nil=>
  subst hl
  refine aUG @fD.eq_1 ?_
  refine aO rfl (fun h=>aN ?_) (fun h=>?_)
  rotate_left
  ·simp at h
  refine u_5 ?_
  exact u_8 hr
 |cons z r=>
  have ha:=List.getElem?_eq_getElem (show r.length<(z::r).length by simp)
  generalize (z::r)[r.length]'_=x at ha
  have hlast:l.getLast?=some x:=aQ8 (n:=r.length) (by rw [hl];simp) (by rw [hl];exact ha)
  have hlen:l.length=r.length+1:=by rw [hl];simp
  rw [<-hl] at ha ⊢
  rw [hlast] at hr
  simp only at hr
  clear hl
  have hw:IntKind.i64.wrap ((l.length:Int)-1)=(r.length:Int):=by rw [aA (by omega) (by omega)];omega
  refine u_3 ?_
  refine aO rfl (fun h=>aN ?_) (fun h=>aQ ?_)
  ·simp at h;subst h;simp at hlen
  refine u_6 (Y2 hw ha) ?_
  exact u_8 hr
theorem aEU (l:List Int) (x:Int):bM (l++[x])=bM l++[[.int .i64 x]]:=by simp [bM]
def aPV (next:Int) (x:dK):Bool:=inB x.bZ 1 (next-1) && inB x.bS 1 1000000000 && gO x.cY
def sD (next:Int) (l:List dK) (i:Nat):Bool:=match l[i]? with
 |none=>true
 |some x=>aPV next x && (match i with|0=>true|j+1=>match l[j]? with|some y=>decide (y.bZ<x.bZ)|none=>true)
def lE (r:dZ):Bool:=lT r.jK && inB r.bJ 1 1000000000 && decide (r.cS.length<=60) && (List.range r.cS.length).all (sD r.bJ r.cS)
theorem cD {x lo hi:Int} (h:inB x lo hi=true):lo<=x/\x<=hi:=by
 simp only [inB,Bool.and_eq_true,decide_eq_true_eq] at h;exact h
theorem vY (r:dZ) (hc:r.cost<=1048576):aC PP GG 206 [.agg r.c] (.d (.bool (lE r))) [none]:=by
 refine cv Tryz.func206 [.d (.bool (lE r))] ?_
 obtain ⟨f,k,l⟩:=r
 have hco:(dZ.mk f k l).cost=l.length+dF dK.cost l:=rfl
 have ck:=iI f
 have cn:aC PP GG 20 [.d (.int .i64 k),.d (.int .i64 1),.d (.int .i64 1000000000)] (.d (.bool (inB k 1 1000000000))) [none,none,none]:=bD _ _ _
 have hr:lE (dZ.mk f k l)=(lT f && inB k 1 1000000000 && decide (l.length<=60) && (List.range l.length).all (sD k l)):=rfl
 have hkr:inB k 1 1000000000=true->1<=k/\k<=1000000000:=cD
 generalize lT f=p at ck hr
 generalize inB k 1 1000000000=u at cn hr hkr
 obtain ⟨v,hv⟩:∃ v,decide (l.length<=60)=v:=⟨_,rfl⟩
 have hv2:decide (60<(l.length:Int))=!v:=by rw [<-hv,<-decide_not];exact decide_eq_decide.2 (by omega)
 rw [hv] at hr
 refine u_1 ?_
 refine aP6 hv2 (Z2 ck cn) 20 (!(p && u && v)) ?_
 refine aO rfl (fun h=>aN ?_) (fun h=>aQ ?_)
 ·refine u_5 ?_
  have:lE (dZ.mk f k l)=false:=by rw [hr];revert h;cases u<;>cases p<;>cases v<;>simp
  exact u_8 this
 have hr2:lE (dZ.mk f k l)=(List.range l.length).all (sD k l):=by rw [hr];revert h;cases u<;>cases p<;>cases v<;>simp
 have hk:=hkr (by revert h;cases u<;>cases p<;>cases v<;>simp)
 have hwk:IntKind.i64.wrap (k-1)=k-1:=aA (by omega) (by omega)
 refine u_3 ?_
 refine aU (bH (fun n st=>∃ i:Nat,n=l.length-i/\i<=l.length/\(∀ j,j<i->sD k l j=true) ∧
  st=⟨[],[(1,.ptr 0 0),(3,.d (.int .i64 i))],[(0,.box [.d (.int .i64 f),.d (.int .i64 k),.d (.slc 6 (jA l))])],1⟩) _ ⟨0,rfl,by omega,fun j h=>by omega,rfl⟩ ?_)
 rintro n st ⟨i,rfl,hi,hn,rfl⟩
 refine u_3 ?_
 refine aO rfl (fun h2=>aQ ?_) (fun h2=>cR ?_)
 ·simp at h2
  have ha:=List.getElem?_eq_getElem h2
  generalize l[i]=x at ha
  have hg:=mI (f:=dK.cost) ha
  have hcx:x.cost=x.cY.length+x.oW.cost:=rfl
  refine aN (aU (aN ?_))
  refine u_2 ha ?_
  have c1:aC PP GG 20 [.d (.int .i64 x.bZ),.d (.int .i64 1),.d (.int .i64 (k-1))] (.d (.bool (inB x.bZ 1 (k-1)))) [none,none,none]:=bD _ _ _
  have c2:aC PP GG 20 [.d (.int .i64 x.bS),.d (.int .i64 1),.d (.int .i64 1000000000)] (.d (.bool (inB x.bS 1 1000000000))) [none,none,none]:=bD _ _ _
  have c3:=gF x.cY (by omega)
  have hno:aPV k x=(inB x.bZ 1 (k-1) && inB x.bS 1 1000000000 && gO x.cY):=rfl
  generalize inB x.bZ 1 (k-1)=p1 at c1 hno
  generalize inB x.bS 1 1000000000=p2 at c2 hno
  generalize gO x.cY=p3 at c3 hno
  refine aN (?_)
  cases i with
  |zero=>
   have hlk:sD k l 0=(p1 && p2 && p3):=by unfold sD;rw [ha];simp only [hno,Bool.and_true]
   refine aWv (Y2 ha hwk) (Z3 c1 c2 c3) 67 (!(p1 && p2 && p3)) ?_
   generalize (p1 && p2 && p3)=q at hlk
   refine aO rfl (fun h4=>aN ?_) (fun h4=>aQ ?_)
   ·refine u_5 ?_
    have:lE (dZ.mk f k l)=false:=by rw [hr2];exact wD (i:=0) (by omega) (by rw [hlk];revert h4;cases q<;>simp)
    exact u_8 this
   refine u_5 ?_
   exact ⟨l.length-(0+1),by omega,0+1,rfl,h2,uJ hn (by rw [hlk];revert h4;cases q<;>simp),by simp [gc,bP,cI,gcV,gcO,dS,cU,eH,aY,bR,bU,dU];exact aA (by omega) (by omega)⟩
  |succ j=>
   have hb:=List.getElem?_eq_getElem (show j<l.length by omega)
   generalize l[j]'_=y at hb
   have hw1:IntKind.i64.wrap (j:Int)=j:=aA (by omega) (by omega)
   obtain ⟨z,hz⟩:∃ z,decide (y.bZ<x.bZ)=z:=⟨_,rfl⟩
   have hz2:decide (x.bZ<=y.bZ)=!z:=by rw [<-hz,<-decide_not];exact decide_eq_decide.2 (by omega)
   have hlk:sD k l (j+1)=(p1 && p2 && p3 && z):=by unfold sD;rw [ha];simp only [hno,hb,hz]
   have hlt:j<l.length:=by omega
   refine aWv (Y5 ha hb hw1 hwk hz2) (Z3 c1 c2 c3) 67 (!(p1 && p2 && p3 && z)) ?_
   generalize (p1 && p2 && p3 && z)=q at hlk
   refine aO rfl (fun h4=>aN ?_) (fun h4=>aQ ?_)
   ·refine u_5 ?_
    have:lE (dZ.mk f k l)=false:=by rw [hr2];exact wD (i:=j+1) (by omega) (by rw [hlk];revert h4;cases q<;>simp)
    exact u_8 this
   refine u_5 ?_
   refine ⟨l.length-(j+1+1),by omega,j+1+1,rfl,h2,uJ hn (by rw [hlk];revert h4;cases q<;>simp),?_⟩
   simp [gc,bP,cI,gcV,gcO,dS,cU,eH,aY,bR,bU,dU]
   rw [aA (by omega) (by omega)]
 ·simp at h2
  rw [if_pos rfl]
  refine u_1 ?_
  have:lE (dZ.mk f k l)=true:=by rw [hr2];exact List.all_eq_true.2 fun j hj=>hn j (by have:=List.mem_range.1 hj;omega)
  exact u_8 this
theorem wT {α:Type} {p:α->Bool} {l:List α} {i:Nat} {x:α} (ha:l[i]?=some x) (hn:∀ y,y∈l.take i->p y=false) (hx:p x=true):l.findIdx? p=some i:=by
 obtain ⟨h,e⟩:=List.getElem?_eq_some_iff.1 ha
 rw [List.findIdx?_eq_some_iff_getElem]
 refine ⟨h,by rw [e];exact hx,fun j hj=>?_⟩
 have:=hn l[j] (List.mem_take_iff_getElem.2 ⟨j,by omega,rfl⟩)
 simp [this]
theorem qS {α:Type} {p:α->Bool} {l:List α} (hn:∀ y,y∈l->p y=false):l.findIdx? p=none:=List.findIdx?_eq_none_iff.2 hn
def aIi {α:Type} (p:α->Bool) (l:List α):Int:=match l.findIdx? p with|some i=>(i:Int)|none=>-1
theorem aMg (r:dZ) (id:Int) (hc:r.cost<=1048576):aC PP GG 209 [.agg r.c,.d (.int .i64 id)] (.d (.int .i64 (aIi (fun x:dK=>x.bZ==id) r.cS))) [none,none]:=by
 refine cv Tryz.func209 [.d (.int .i64 (aIi (fun x:dK=>x.bZ==id) r.cS))] ?_
 obtain ⟨f,k,l⟩:=r
 have hco:(dZ.mk f k l).cost=l.length+dF dK.cost l:=rfl
 simp only
 refine u_1 ?_
 refine u_3 ?_
 refine aU (bH (fun n st=>∃ i:Nat,n=l.length-i/\i<=l.length/\(∀ y,y∈l.take i->(y.bZ==id)=false) ∧
  st=⟨[],[(1,.d (.int .i64 id)),(2,.ptr 0 0),(5,.d (.int .i64 i))],[(0,.box [.d (.int .i64 f),.d (.int .i64 k),.d (.slc 6 (jA l))])],1⟩) _ ⟨0,rfl,by omega,fun y h=>by simp at h,rfl⟩ ?_)
 rintro n st ⟨i,rfl,hi,hn,rfl⟩
 refine u_3 ?_
 refine aO rfl (fun h2=>aQ ?_) (fun h2=>cR ?_)
 ·simp at h2
  have ha:=List.getElem?_eq_getElem h2
  generalize l[i]=x at ha
  refine aN (aU (aN ?_))
  refine u_2 ha ?_
  refine aO rfl (fun h3=>aN ?_) (fun h3=>aQ ?_)
  ·refine u_5 ?_
   have:aIi (fun x:dK=>x.bZ==id) l=i:=by unfold aIi;rw [wT ha hn (by simpa using h3)]
   exact u_8 this
  refine u_5 ?_
  exact ⟨l.length-(i+1),by omega,i+1,rfl,h2,kO ha hn (by simpa using h3),by simp [gc,bP,cI,gcV,gcO,dS,cU,eH,aY,bR,bU,dU];exact aA (by omega) (by omega)⟩
 ·simp at h2
  rw [if_pos rfl]
  rw [List.take_of_length_le h2] at hn
  refine u_1 ?_
  have:aIi (fun x:dK=>x.bZ==id) l=-1:=by unfold aIi;rw [qS hn]
  exact u_8 this
theorem jH (a:List UInt8) (ha:a.length<=70368744177664):aC PP GG 103 [.d (.slc 1 (aB a))] (.own 0 1 (aB a)) [none]:=by
 refine cv Tryz.func103 [.own 0 1 (aB a)] ?_
 refine u_1 ?_
 refine u_6 @sP.eq_1 ?_
 refine u_3 ?_
 refine aU (bH (fun n st=>∃ i:Nat,n=a.length-i/\i<=a.length ∧
  st=⟨[],[(0,.d (.slc 1 (aB a))),(3,.sl 0),(4,.d (.int .i64 i))],[(0,.arr 0 0 1 (aB (a.take i)))],1⟩) _ ⟨0,rfl,by omega,rfl⟩ ?_)
 rintro n st ⟨i,rfl,hi,rfl⟩
 refine u_3 ?_
 refine aO rfl (fun h=>aQ ?_) (fun h=>cR ?_)
 ·simp at h
  have hx:=List.getElem?_eq_getElem h
  generalize a[i]=x at hx
  have hl:(a.take i).length<=a.length:=by rw [List.length_take];omega
  refine aN (aU ?_)
  refine u_2 (Y2 hx @aM.eq_1) ?_
  refine u_5 ?_
  exact ⟨a.length-(i+1),by omega,i+1,rfl,h,by simp [gc,bP,cI,gcV,gcO,dS,cU,eH,aY,bR,bU,dU,pW hx];exact aA (by omega) (by omega)⟩
 ·simp at h
  rw [if_pos rfl]
  refine u_6 (List.take_of_length_le h) ?_
  exact u_7
theorem gD (a b:List UInt8) (ha:a.length+b.length<=70368744177664):aC PP GG 104 [.d (.slc 1 (aB a)),.d (.slc 1 (aB b))] (.own 0 1 (aB (a++b))) [none,none]:=by
 refine cv Tryz.func104 [.own 0 1 (aB (a++b))] ?_
 have cb:=jH a (by omega)
 have happ:∀ x y:List UInt8,aB (x++y)=aB x++aB y:=fun x y=>by simp [aB]
 refine u_1 ?_
 refine oK (Z1 cb) ?_
 refine u_3 ?_
 refine aU (bH (fun n st=>∃ i:Nat,n=b.length-i/\i<=b.length ∧
  st=⟨[],[(1,.d (.slc 1 (aB b))),(5,.sl 0),(6,.d (.int .i64 i))],[(0,.arr 0 0 1 (aB (a++b.take i)))],1⟩) _ ⟨0,rfl,by omega,by simp [gc,bP,cI,gcV,gcO,dS,cU,eH,aY,bR,bU,dU]⟩ ?_)
 rintro n st ⟨i,rfl,hi,rfl⟩
 refine u_3 ?_
 refine aO rfl (fun h=>aQ ?_) (fun h=>cR ?_)
 ·simp at h
  have hx:=List.getElem?_eq_getElem h
  generalize b[i]=x at hx
  have hl:(a++b.take i).length<=a.length+b.length:=by rw [List.length_append,List.length_take];omega
  have hs:=pW hx
  obtain ⟨w,hw⟩:∃ w,a++b.take i=w:=⟨_,rfl⟩
  have hw2:aB (a++b.take (i+1))=aB w++[[.int .u8 x.toNat]]:=by rw [happ,hs,<-hw,happ,List.append_assoc]
  rw [hw] at hl ⊢
  refine aN (aU ?_)
  refine u_2 (Y2 hx @aM.eq_1) ?_
  refine u_5 ?_
  exact ⟨b.length-(i+1),by omega,i+1,rfl,h,by simp [gc,bP,cI,gcV,gcO,dS,cU,eH,aY,bR,bU,dU,hw2];exact aA (by omega) (by omega)⟩
 ·simp at h
  rw [if_pos rfl]
  refine u_6 (List.take_of_length_le h) ?_
  exact u_7
def xX (x:Int) (i:Nat):UInt8:=UInt8.ofNat ((x.toNat / 2 ^ (8*i)) % 256)
def nJ (x:Int):List UInt8:=(List.range 8).map (xX x)
theorem aD1 (x:Int):(nJ x).length=8:=by simp [nJ]
theorem aSl {x:Int} (hx:0<=x) {i q:Nat} (hi:i<8) (hq:x.toNat / 2 ^ (8*i)=q):yA .shr .i64 x (8*(i:Int))=some (.int .i64 (q:Int)):=by
 rw [aOy _ _ _ (by omega)]
 have e1:(8*(i:Int)).toNat=8*i:=by omega
 have e2:min (8*i) IntKind.i64.bits=8*i:=by
  show min (8*i) 64=8*i
  omega
 have e4:((2:Int) ^ (8*i))=((2 ^ (8*i):Nat):Int):=by simp
 obtain ⟨m,rfl⟩:∃ m:Nat,x=m:=⟨x.toNat,by omega⟩
 rw [e1,e2,e4,Int.fdiv_eq_ediv_of_nonneg _ (Int.natCast_nonneg _),<-hq]
 rfl
theorem aKf (q:Nat):fX .and .i64 (q:Int) 255=some (.int .i64 ((q % 256:Nat):Int)):=by
 have e:(BitVec.ofInt IntKind.i64.bits (q:Int) &&& BitVec.ofInt IntKind.i64.bits 255).toNat=q % 256:=by
  show (BitVec.ofInt 64 (q:Int) &&& 255#64).toNat=q % 256
  rw [BitVec.toNat_and,show (255#64).toNat=2 ^ 8-1 from rfl,Nat.and_two_pow_sub_one_eq_mod,BitVec.ofInt_natCast,BitVec.toNat_ofNat]
  omega
 show some (D.int .i64 (IntKind.i64.wrap (((BitVec.ofInt IntKind.i64.bits (q:Int) &&& BitVec.ofInt IntKind.i64.bits 255).toNat:Nat):Int)))=_
 rw [e,aA (by omega) (by omega)]
theorem aPY {x:Int} {i q:Nat} (hq:x.toNat / 2 ^ (8*i)=q):IntKind.u8.wrap ((q:Int) % 256)=((xX x i).toNat:Int):=by
 unfold xX
 rw [hq,IntKind.wrap_u8,UInt8.toNat_ofNat'];omega
theorem aOf (x:Int) (i:Nat):aB ((List.range (i+1)).map (xX x))=aB ((List.range i).map (xX x))++[[.int .u8 (xX x i).toNat]]:=by
 simp [List.range_succ,aB]
theorem uF (x:Int) (hk:lT x=true):aC PP GG 239 [.d (.int .i64 x)] (.own 0 1 (aB (nJ x))) [none]:=by
 refine cv Tryz.func239 [.own 0 1 (aB (nJ x))] ?_
 have ck:=iI x
 rw [hk] at ck
 have hx:=cD hk
 refine u_1 ?_
 refine u_6 @sP.eq_1 ?_
 refine aD4 (Z1 ck) ?_
 refine aO rfl (fun h=>?_) (fun h=>aQ ?_)
 ·simp at h
 refine u_3 ?_
 refine aU (bH (fun n st=>∃ i:Nat,n=8-i/\i<=8 ∧
  st=⟨[],[(0,.d (.int .i64 x)),(3,.sl 0),(4,.d (.int .i64 i))],[(0,.arr 0 0 1 (aB ((List.range i).map (xX x))))],1⟩) _ ⟨0,rfl,by omega,rfl⟩ ?_)
 rintro n st ⟨i,rfl,hi,rfl⟩
 refine u_3 ?_
 refine aO rfl (fun h=>aQ ?_) (fun h=>cR ?_)
 ·simp at h
  obtain ⟨q,hq⟩:∃ q:Nat,x.toNat / 2 ^ (8*i)=q:=⟨_,rfl⟩
  have f1:=aSl hx.1 (by omega) hq
  have f2:=aKf q
  have f3:=aPY hq
  have f4:IntKind.i64.wrap (8*(i:Int))=8*i:=aA (by omega) (by omega)
  have f5:IntKind.u64.wrap (8*(i:Int))=8*i:=by rw [IntKind.wrap_u64];omega
  have hs:=aOf x i
  have hl:((List.range i).map (xX x)).length=i:=by simp
  generalize (List.range i).map (xX x)=w at hs hl ⊢
  generalize xX x i=b at f3 hs
  refine aN (aU ?_)
  refine u_2 (Y6 f4 f5 f1 f2 f3 @aM.eq_1) ?_
  refine u_5 ?_
  exact ⟨8-(i+1),by omega,i+1,rfl,by omega,by rw [hs];simp [gc,bP,cI,gcV,gcO,dS,cU,eH,aY,bR,bU,dU];exact aA (by omega) (by omega)⟩
 ·simp at h
  have hi8:i=8:=by omega
  subst hi8
  rw [if_pos rfl]
  refine u_1 ?_
  exact u_8 @nJ.eq_1
theorem vB (l:List UInt8):0<=rZ l/\rZ l<=4611686018427387904:=by
 have h1:=aRS l
 have h2:=aRR l
 unfold rZ
 omega
def aOs (a:Int) (x:cW):Int:=rZ (aHz a x.nX x.fAt x.aDL x.sM x.dM x.vN)
theorem aFd {c:eB} {i:Nat} {x:cW} (h:fQ c=true) (hx:c.dY[i]?=some x):wJ x=true:=by
 simp only [fQ,Bool.and_eq_true,List.all_eq_true,List.mem_range] at h
 exact aGT (h.2 i ((List.getElem?_eq_some_iff.1 hx).1)) hx
theorem aOF (a:Int) (x:cW) (ha:aX a) (hx:x.ok) (h1:x.sM.length<=1048576) (h2:x.dM.length<=1048576):aC PP GG 170 [.d (.int .i64 a),.agg x.c] (.d (.int .i64 (aOs a x))) [none,none]:=
 aMi a x.nX x.fAt x.aDL x.sM x.dM x.vN x.aBI ha hx.1 hx.2.1 hx.2.2.1 hx.2.2.2.2.2.1 h1 h2
def aG2 (c:eB):Int:=match c.dY.getLast? with|some x=>x.aBI|none=>c.jO
theorem aG0 (l:List cW):∀ row,row∈fD l->∀ d,d∈row->oB 0 d:=by
 intro row hr d hd
 simp only [fD,List.mem_map] at hr
 obtain ⟨x,_,rfl⟩:=hr
 simp only [cW.row,List.mem_cons,List.not_mem_nil,or_false] at hd
 rcases hd with rfl|rfl|rfl|rfl|rfl|rfl|rfl<;>trivial
theorem uL (l:List cW) (x:cW):fD (l++[x])=fD l++[x.row]:=by simp [fD]
theorem aMO (r:eB) (hc:r.cost<=4194304):aC PP GG 168 [.agg r.c] (.agg r.o) [none]:=by
 refine cv Tryz.func168 [.agg r.o] ?_
 obtain ⟨f,k,l⟩:=r
 have hco:(eB.mk f k l).cost=l.length+dF cW.cost l:=rfl
 refine u_1 ?_
 refine u_1 ?_
 refine u_3 ?_
 refine aU (bH (fun n st=>∃ (i:Nat) (w:List cW),n=l.length-i/\i<=l.length/\w=l.take i ∧
  ((i=0/\st=⟨[],[(1,.ptr 0 0),(2,.ptr 1 0),(3,.ptr 2 0),(4,.d (.int .i64 0))],[(0,.box [.d (.int .i64 f),.d (.int .i64 k),.d (.slc 7 (fD l))]),(1,.box [.d (.int .i64 0),.d (.int .i64 0),.nil 0 7]),(2,.box [.d (.int .i64 f),.d (.int .i64 k),.nil 0 7])],3⟩) ∨
   st=⟨[],[(1,.ptr 0 0),(2,.ptr 1 0),(3,.ptr 2 0),(4,.d (.int .i64 i))],[(0,.box [.d (.int .i64 f),.d (.int .i64 k),.d (.slc 7 (fD l))]),(1,.box [.d (.int .i64 0),.d (.int .i64 0),.nil 0 7]),(2,.box [.d (.int .i64 f),.d (.int .i64 k),.sl 3]),(3,.arr 0 0 7 (fD w))],4⟩)) _ ⟨0,[],rfl,by omega,rfl,.inl ⟨rfl,rfl⟩⟩ ?_)
 rintro n st ⟨i,w,rfl,hi,hw,⟨rfl,rfl⟩|rfl⟩
 ·refine u_3 ?_
  refine aO rfl (fun h=>aQ ?_) (fun h=>cR ?_)
  ·simp at h
   have ha:=List.getElem?_eq_getElem h
   generalize l[0]=x at ha
   have hg:=mI (f:=cW.cost) ha
   refine aN (aU ?_)
   refine u_4 (Y2 ha @aM.eq_1) ?_
   refine u_5 ?_
   refine ⟨l.length-(0+1),by omega,0+1,[x],rfl,h,by rw [List.take_add_one,ha];rfl,.inr ?_⟩
   simp [gc,bP,cI,gcV,gcO,dS,cU,eH,aY,bR,bU,dU,fD]
   exact aA (by omega) (by omega)
  ·simp at h
   have hnil:l=[]:=by first|exact h|exact List.length_eq_zero_iff.1 (by omega)
   rw [if_pos rfl]
   refine u_1 ?_
   exact u_8 (Y2 hnil @fD.eq_1)
 ·refine u_3 ?_
  refine aO rfl (fun h=>aQ ?_) (fun h=>cR ?_)
  ·simp at h
   have ha:=List.getElem?_eq_getElem h
   generalize l[i]=x at ha
   have hg:=mI (f:=cW.cost) ha
   have hwl:w.length<=l.length:=by rw [hw,List.length_take];omega
   have hs:w++[x]=l.take (i+1):=by rw [hw,List.take_add_one,ha];rfl
   refine aN (aU ?_)
   refine u_4 (Y2 ha @aM.eq_1) ?_
   refine u_5 ?_
   refine ⟨l.length-(i+1),by omega,i+1,w++[x],rfl,h,hs,.inr ?_⟩
   rw [uL]
   simp [gc,bP,cI,gcV,gcO,dS,cU,eH,aY,bR,bU,dU]
   exact aA (by omega) (by omega)
  ·simp at h
   rw [List.take_of_length_le h] at hw
   subst hw
   rw [if_pos rfl]
   refine u_1 ?_
   exact u_7
def aU3 (n:cW) (s:Int):cW:={ n with nX:=s }
def aU2 (n:cW) (s:Int):cW:={ n with aBI:=s }
def pL (c:eB) (n:cW):cW:=
 let m:=aU3 n (match c.dY.getLast? with|some x=>x.nX+1|none=>1)
 aU2 m (aOs (aG2 c) m)
def qJ (c:eB) (x:cW):eB:=
 if c.dY.length=120 then { jO:=(match c.dY with|z::_=>z.aBI|[]=>0),sN:=c.sN,dY:=c.dY.drop 1++[x] }
 else { jO:=c.jO,sN:=c.sN,dY:=c.dY++[x] }
def aPL (c:eB) (n:cW):Bool:=fQ c && fQ (qJ c (pL c n))
def aLU (c:eB) (n:cW):eB:=if aPL c n=true then qJ c (pL c n) else c
theorem aE0 (c:eB) (x:cW):(qJ c x).cost<=c.cost+1+x.cost:=by
 have hsum:∀ (a b:List cW),dF cW.cost (a++b)=dF cW.cost a+dF cW.cost b:=fun a b=>aA8 _ a b
 have hd:dF cW.cost (c.dY.drop 1)<=dF cW.cost c.dY:=by
  cases c.dY with
  |nil=>simp
  |cons z t=>show dF cW.cost t<=dF cW.cost (z::t);simp [dF]
 have h1:dF cW.cost [x]=x.cost:=by simp [dF]
 unfold qJ
 split
 ·show (c.dY.drop 1++[x]).length+dF cW.cost (c.dY.drop 1++[x])<=c.dY.length+dF cW.cost c.dY+1+x.cost
  rw [hsum,h1,List.length_append,List.length_drop];simp only [List.length_cons,List.length_nil];omega
 ·show (c.dY++[x]).length+dF cW.cost (c.dY++[x])<=c.dY.length+dF cW.cost c.dY+1+x.cost
  rw [hsum,h1,List.length_append];simp;omega
theorem aHg {c:eB} (h:fQ c=true):c.dY.length<=120:=by
 unfold fQ at h;simp only [Bool.and_eq_true,decide_eq_true_eq] at h;omega
end Go.Proofs.YtiejbbcpihpgpaaGreatDoor.Ab
