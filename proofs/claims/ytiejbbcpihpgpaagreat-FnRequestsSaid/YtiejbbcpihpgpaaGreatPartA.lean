/-
  A part of a proof about the given program; what is proved is said where each theorem stands.
-/
import Derived.Test.YtiejbbcpihpgpaaGreatFrameA
import Derived.Test.YtiejbbcpihpgpaaGreatFrameB
import Derived.Test.YtiejbbcpihpgpaaGreatFrameC
import Derived.Test.YtiejbbcpihpgpaaGreatFrameD
import Derived.Test.YtiejbbcpihpgpaaGreatHead
import Derived.Test.YtiejbbcpihpgpaaGreatCodes
namespace Go.Proofs
end Go.Proofs
set_option linter.unusedSimpArgs false
set_option linter.unusedVariables false
set_option maxRecDepth 100000
set_option maxHeartbeats 2000000
namespace Go.Proofs.YtiejbbcpihpgpaaGreat.Ab
open Go.Proofs
structure Hid (q:Prop):Type where
 o:q
theorem Y2 {p0 p1:Prop} (x0:p0) (x1:p1):p0/\p1:=⟨x0,x1⟩
theorem Y3 {p0 p1 p2:Prop} (x0:p0) (x1:p1) (x2:p2):p0/\p1/\p2:=⟨x0,x1,x2⟩
theorem Y4 {p0 p1 p2 p3:Prop} (x0:p0) (x1:p1) (x2:p2) (x3:p3):p0/\p1/\p2/\p3:=⟨x0,x1,x2,x3⟩
theorem Y5 {p0 p1 p2 p3 p4:Prop} (x0:p0) (x1:p1) (x2:p2) (x3:p3) (x4:p4):p0/\p1/\p2/\p3/\p4:=⟨x0,x1,x2,x3,x4⟩
theorem Y6 {p0 p1 p2 p3 p4 p5:Prop} (x0:p0) (x1:p1) (x2:p2) (x3:p3) (x4:p4) (x5:p5):p0/\p1/\p2/\p3/\p4/\p5:=⟨x0,x1,x2,x3,x4,x5⟩
theorem Y7 {p0 p1 p2 p3 p4 p5 p6:Prop} (x0:p0) (x1:p1) (x2:p2) (x3:p3) (x4:p4) (x5:p5) (x6:p6):p0/\p1/\p2/\p3/\p4/\p5/\p6:=⟨x0,x1,x2,x3,x4,x5,x6⟩
theorem Y8 {p0 p1 p2 p3 p4 p5 p6 p7:Prop} (x0:p0) (x1:p1) (x2:p2) (x3:p3) (x4:p4) (x5:p5) (x6:p6) (x7:p7):p0/\p1/\p2/\p3/\p4/\p5/\p6/\p7:=⟨x0,x1,x2,x3,x4,x5,x6,x7⟩
theorem Y9 {p0 p1 p2 p3 p4 p5 p6 p7 p8:Prop} (x0:p0) (x1:p1) (x2:p2) (x3:p3) (x4:p4) (x5:p5) (x6:p6) (x7:p7) (x8:p8):p0/\p1/\p2/\p3/\p4/\p5/\p6/\p7/\p8:=⟨x0,x1,x2,x3,x4,x5,x6,x7,x8⟩
theorem Y10 {p0 p1 p2 p3 p4 p5 p6 p7 p8 p9:Prop} (x0:p0) (x1:p1) (x2:p2) (x3:p3) (x4:p4) (x5:p5) (x6:p6) (x7:p7) (x8:p8) (x9:p9):p0/\p1/\p2/\p3/\p4/\p5/\p6/\p7/\p8/\p9:=⟨x0,x1,x2,x3,x4,x5,x6,x7,x8,x9⟩
theorem Y15 {p0 p1 p2 p3 p4 p5 p6 p7 p8 p9 p10 p11 p12 p13 p14:Prop} (x0:p0) (x1:p1) (x2:p2) (x3:p3) (x4:p4) (x5:p5) (x6:p6) (x7:p7) (x8:p8) (x9:p9) (x10:p10) (x11:p11) (x12:p12) (x13:p13) (x14:p14):p0/\p1/\p2/\p3/\p4/\p5/\p6/\p7/\p8/\p9/\p10/\p11/\p12/\p13/\p14:=⟨x0,x1,x2,x3,x4,x5,x6,x7,x8,x9,x10,x11,x12,x13,x14⟩
theorem Z1 {p0:Prop} (x0:p0):p0/\True:=⟨x0,trivial⟩
theorem Z2 {p0 p1:Prop} (x0:p0) (x1:p1):p0/\p1/\True:=⟨x0,x1,trivial⟩
theorem Z3 {p0 p1 p2:Prop} (x0:p0) (x1:p1) (x2:p2):p0/\p1/\p2/\True:=⟨x0,x1,x2,trivial⟩
theorem Z4 {p0 p1 p2 p3:Prop} (x0:p0) (x1:p1) (x2:p2) (x3:p3):p0/\p1/\p2/\p3/\True:=⟨x0,x1,x2,x3,trivial⟩
theorem Z5 {p0 p1 p2 p3 p4:Prop} (x0:p0) (x1:p1) (x2:p2) (x3:p3) (x4:p4):p0/\p1/\p2/\p3/\p4/\True:=⟨x0,x1,x2,x3,x4,trivial⟩
theorem Z6 {p0 p1 p2 p3 p4 p5:Prop} (x0:p0) (x1:p1) (x2:p2) (x3:p3) (x4:p4) (x5:p5):p0/\p1/\p2/\p3/\p4/\p5/\True:=⟨x0,x1,x2,x3,x4,x5,trivial⟩
theorem Z7 {p0 p1 p2 p3 p4 p5 p6:Prop} (x0:p0) (x1:p1) (x2:p2) (x3:p3) (x4:p4) (x5:p5) (x6:p6):p0/\p1/\p2/\p3/\p4/\p5/\p6/\True:=⟨x0,x1,x2,x3,x4,x5,x6,trivial⟩
theorem bq {a b:Bool} (h:a=b:=by first|omega|(exact decide_eq_false (by omega))|(exact decide_eq_true (by omega))|(exact (decide_eq_true (by omega)).symm)|(exact (decide_eq_false (by omega)).symm)|(exact decide_eq_decide.2 (by omega))|(simp only [<-decide_not];exact decide_eq_decide.2 (by omega))|(simp [*];done)|(simp [*];omega)|(simp_all;done)|(simp_all;omega)|(rw [Bool.eq_iff_iff];simp at *;omega)):a=b:=h
abbrev RS (V:FuncId->List C->C->List (Option C)->Prop) (ops:List cE) (st st':St):Prop:=∀ K:St->Prop,K st'->rQ V st.nx 0 ops st K
abbrev RD (V:FuncId->List C->C->List (Option C)->Prop) (ops:List cE) (st st':St):Prop:=∀ K:St->Prop,K st'->rA V st.nx 0 ops [] true st K
abbrev RB (V:FuncId->List C->C->List (Option C)->Prop) (ops:List cE) (st:St) (r:Nat) (b:Bool):Prop:=∀ K:St->Prop,(∀ t tm,t=b->K ⟨tm,put st.vars r (.d (.bool t)),st.objs,st.nx⟩)->rQ V st.nx 0 ops st K
abbrev RE (V:FuncId->List C->C->List (Option C)->Prop) (ops:List cE) (st:St) (r:Nat) (b:Bool):Prop:=∀ K:St->Prop,(∀ t tm,t=b->K ⟨tm,put st.vars r (.d (.bool t)),st.objs,st.nx⟩)->rA V st.nx 0 ops [] true st K
section
variable {P:Program} {vl:List Nat} {nt:Nat×List Nat} {V:FuncId->List C->C->List (Option C)->Prop} {ops:List cE} {st st':St} {Kn:St->Prop} {Ke:Nat->St->Prop} {Kr:St->Prop} {a b' c':aH} {E L p q0 q1 q2 q3 q4:Prop}
theorem u_1 (hn:W P vl nt V a ⟨[],st'.vars,st'.objs,st.nx+64*ops.length⟩ Kn Ke Kr) (h:RS V ops st st':=by intro K hK;simp;repeat' (first|with_reducible exact hK|(with_reducible refine aM (fun _=>?_) (fun _=>?_)<;>simp)|with_reducible refine And.intro ?_ ?_|with_reducible exact aS rfl|with_reducible assumption|omega)):W P vl nt V (.seq (.reg ops false) a) st Kn Ke Kr:=aK (nD (h) hn)
theorem u_2 (r:Nat) (b:Bool) (hn:W P vl nt V a ⟨[],put st.vars r (.d (.bool b)),st.objs,st.nx+64*ops.length⟩ Kn Ke Kr) (h:RB V ops st r b:=by intro K hK;simp;repeat' (first|exact hK _ _ (by clear hK;exact bq)|(with_reducible refine aM (fun _=>?_) (fun _=>?_)<;>simp)|with_reducible refine And.intro ?_ ?_|with_reducible exact aS rfl|with_reducible assumption|omega)):W P vl nt V (.seq (.reg ops false) a) st Kn Ke Kr:=aK (nF r b (h) hn)
theorem u_3 (h:p:=by refine sN ?_;simp [Fin];all_goals omega):p:=h
theorem u_4 (hn:W P vl nt V a ⟨[],st'.vars,st'.objs,st.nx+64*ops.length⟩ (fun s=>W P vl nt V b' s Kn Ke Kr) Ke Kr) (h:RS V ops st st':=by intro K hK;simp;repeat' (first|with_reducible exact hK|(with_reducible refine aM (fun _=>?_) (fun _=>?_)<;>simp)|with_reducible refine And.intro ?_ ?_|with_reducible exact aS rfl|with_reducible assumption|omega)):W P vl nt V (.seq (.seq (.reg ops false) a) b') st Kn Ke Kr:=aK (aK (nD (h) hn))
theorem u_5 (hn:Kn ⟨[],st'.vars,st'.objs,st.nx+64*ops.length⟩) (h:RS V ops st st':=by intro K hK;simp;repeat' (first|with_reducible exact hK|(with_reducible refine aM (fun _=>?_) (fun _=>?_)<;>simp)|with_reducible refine And.intro ?_ ?_|with_reducible exact aS rfl|with_reducible assumption|omega)):W P vl nt V (.reg ops false) st Kn Ke Kr:=nD (h) hn
theorem u_6 (e:E) (k:L) (hn:W P vl nt V a ⟨[],st'.vars,st'.objs,st.nx+64*ops.length⟩ Kn Ke Kr) (h:Hid E->Hid L->RS V ops st st':=by intro e k K hK;simp [e.o];repeat' (first|with_reducible exact hK|((with_reducible first|refine aI k.o.1 ?_|refine aI k.o.2.1 ?_|refine aI k.o.2.2.1 ?_|refine aI k.o.2.2.2.1 ?_|refine aI k.o.2.2.2.2.1 ?_|refine aI k.o.2.2.2.2.2.1 ?_|refine aI k.o.2.2.2.2.2.2.1 ?_|refine aI k.o.2.2.2.2.2.2.2.1 ?_);simp [e.o])|(with_reducible refine aM (fun _=>?_) (fun _=>?_)<;>simp [e.o])|with_reducible refine And.intro ?_ ?_|with_reducible exact aS rfl|with_reducible assumption|omega)):W P vl nt V (.seq (.reg ops false) a) st Kn Ke Kr:=aK (nD (h ⟨e⟩ ⟨k⟩) hn)
theorem u_7 (e:E) (h:Hid E->p:=by intro e;refine sN ?_;simp [Fin,e.o];all_goals omega):p:=h ⟨e⟩
theorem u_8 (k:L) (hn:W P vl nt V a ⟨[],st'.vars,st'.objs,st.nx+64*ops.length⟩ Kn Ke Kr) (h:Hid L->RS V ops st st':=by intro k K hK;simp;repeat' (first|with_reducible exact hK|((with_reducible first|refine aI k.o.1 ?_|refine aI k.o.2.1 ?_|refine aI k.o.2.2.1 ?_|refine aI k.o.2.2.2.1 ?_|refine aI k.o.2.2.2.2.1 ?_|refine aI k.o.2.2.2.2.2.1 ?_|refine aI k.o.2.2.2.2.2.2.1 ?_|refine aI k.o.2.2.2.2.2.2.2.1 ?_);simp)|(with_reducible refine aM (fun _=>?_) (fun _=>?_)<;>simp)|with_reducible refine And.intro ?_ ?_|with_reducible exact aS rfl|with_reducible assumption|omega)):W P vl nt V (.seq (.reg ops false) a) st Kn Ke Kr:=aK (nD (h ⟨k⟩) hn)
theorem u_9 (k:L) (r:Nat) (b:Bool) (hn:W P vl nt V a ⟨[],put st.vars r (.d (.bool b)),st.objs,st.nx+64*ops.length⟩ Kn Ke Kr) (h:Hid L->RB V ops st r b:=by intro k K hK;simp;repeat' (first|exact hK _ _ (by clear hK;exact bq)|((with_reducible first|refine aI (k.o.1 ..) ?_|refine aI (k.o.2.1 ..) ?_|refine aI (k.o.2.2.1 ..) ?_|refine aI (k.o.2.2.2.1 ..) ?_|refine aI (k.o.2.2.2.2.1 ..) ?_|refine aI (k.o.2.2.2.2.2.1 ..) ?_|refine aI (k.o.2.2.2.2.2.2.1 ..) ?_|refine aI (k.o.2.2.2.2.2.2.2.1 ..) ?_);simp)|(with_reducible refine aM (fun _=>?_) (fun _=>?_)<;>simp)|with_reducible refine And.intro ?_ ?_|with_reducible exact aS rfl|with_reducible assumption|omega)):W P vl nt V (.seq (.reg ops false) a) st Kn Ke Kr:=aK (nF r b (h ⟨k⟩) hn)
theorem aTx (k:L) (r:Nat) (b:Bool) (hn:W P vl nt V a ⟨[],put st.vars r (.d (.bool b)),st.objs,st.nx+64*ops.length⟩ (fun s=>W P vl nt V b' s Kn Ke Kr) Ke Kr) (h:Hid L->RB V ops st r b:=by intro k K hK;simp;repeat' (first|exact hK _ _ (by clear hK;exact bq)|((with_reducible first|refine aI (k.o.1 ..) ?_|refine aI (k.o.2.1 ..) ?_|refine aI (k.o.2.2.1 ..) ?_|refine aI (k.o.2.2.2.1 ..) ?_|refine aI (k.o.2.2.2.2.1 ..) ?_|refine aI (k.o.2.2.2.2.2.1 ..) ?_|refine aI (k.o.2.2.2.2.2.2.1 ..) ?_|refine aI (k.o.2.2.2.2.2.2.2.1 ..) ?_);simp)|(with_reducible refine aM (fun _=>?_) (fun _=>?_)<;>simp)|with_reducible refine And.intro ?_ ?_|with_reducible exact aS rfl|with_reducible assumption|omega)):W P vl nt V (.seq (.seq (.reg ops false) a) b') st Kn Ke Kr:=aK (aK (nF r b (h ⟨k⟩) hn))
theorem jJ (e:E) (hn:Kn ⟨[],st'.vars,st'.objs,st.nx+64*ops.length⟩) (h:Hid E->RS V ops st st':=by intro e K hK;simp [e.o];repeat' (first|with_reducible exact hK|(with_reducible refine aM (fun _=>?_) (fun _=>?_)<;>simp [e.o])|with_reducible refine And.intro ?_ ?_|with_reducible exact aS rfl|with_reducible assumption|omega)):W P vl nt V (.reg ops false) st Kn Ke Kr:=nD (h ⟨e⟩) hn
theorem aNB (e:E) (hn:W P vl nt V a ⟨[],st'.vars,st'.objs,st.nx+64*ops.length⟩ Kn Ke Kr) (h:Hid E->RD V ops st st':=by intro e K hK;simp [e.o];repeat' (first|with_reducible exact hK|(with_reducible refine aM (fun _=>?_) (fun _=>?_)<;>simp [e.o])|with_reducible refine And.intro ?_ ?_|with_reducible exact aS rfl|with_reducible assumption|omega)):W P vl nt V (.seq (.reg ops true) a) st Kn Ke Kr:=aK (aBP (h ⟨e⟩) hn)
theorem aPN (k:L) (r:Nat) (b:Bool) (hn:W P vl nt V a ⟨[],put st.vars r (.d (.bool b)),st.objs,st.nx+64*ops.length⟩ (fun s=>W P vl nt V b' s Kn Ke Kr) Ke Kr) (h:Hid L->RB V ops st r b:=by intro k K hK;simp;repeat' (first|exact hK _ _ (by clear hK;exact bq)|((with_reducible first|refine aI k.o.1 ?_|refine aI k.o.2.1 ?_|refine aI k.o.2.2.1 ?_|refine aI k.o.2.2.2.1 ?_|refine aI k.o.2.2.2.2.1 ?_|refine aI k.o.2.2.2.2.2.1 ?_|refine aI k.o.2.2.2.2.2.2.1 ?_|refine aI k.o.2.2.2.2.2.2.2.1 ?_);simp)|(with_reducible refine aM (fun _=>?_) (fun _=>?_)<;>simp)|with_reducible refine And.intro ?_ ?_|with_reducible exact aS rfl|with_reducible assumption|omega)):W P vl nt V (.seq (.seq (.reg ops false) a) b') st Kn Ke Kr:=aK (aK (nF r b (h ⟨k⟩) hn))
theorem mL (e:E) (hn:W P vl nt V a ⟨[],st'.vars,st'.objs,st.nx+64*ops.length⟩ Kn Ke Kr) (h:Hid E->RS V ops st st':=by intro e K hK;simp [e.o];repeat' (first|with_reducible exact hK|(with_reducible refine aM (fun _=>?_) (fun _=>?_)<;>simp [e.o])|with_reducible refine And.intro ?_ ?_|with_reducible exact aS rfl|with_reducible assumption|omega)):W P vl nt V (.seq (.reg ops false) a) st Kn Ke Kr:=aK (nD (h ⟨e⟩) hn)
theorem aCf (k:L) (hn:W P vl nt V a ⟨[],st'.vars,st'.objs,st.nx+64*ops.length⟩ (fun s=>W P vl nt V b' s Kn Ke Kr) Ke Kr) (h:Hid L->RS V ops st st':=by intro k K hK;simp;repeat' (first|with_reducible exact hK|((with_reducible first|refine aI k.o.1 ?_|refine aI k.o.2.1 ?_|refine aI k.o.2.2.1 ?_|refine aI k.o.2.2.2.1 ?_|refine aI k.o.2.2.2.2.1 ?_|refine aI k.o.2.2.2.2.2.1 ?_|refine aI k.o.2.2.2.2.2.2.1 ?_|refine aI k.o.2.2.2.2.2.2.2.1 ?_);simp)|(with_reducible refine aM (fun _=>?_) (fun _=>?_)<;>simp)|with_reducible refine And.intro ?_ ?_|with_reducible exact aS rfl|with_reducible assumption|omega)):W P vl nt V (.seq (.seq (.reg ops false) a) b') st Kn Ke Kr:=aK (aK (nD (h ⟨k⟩) hn))
theorem aRK (k:L) (r:Nat) (b:Bool) (hn:Kn ⟨[],put st.vars r (.d (.bool b)),st.objs,st.nx+64*ops.length⟩) (h:Hid L->RB V ops st r b:=by intro k K hK;simp;repeat' (first|exact hK _ _ (by clear hK;exact bq)|((with_reducible first|refine aI k.o.1 ?_|refine aI k.o.2.1 ?_|refine aI k.o.2.2.1 ?_|refine aI k.o.2.2.2.1 ?_|refine aI k.o.2.2.2.2.1 ?_|refine aI k.o.2.2.2.2.2.1 ?_|refine aI k.o.2.2.2.2.2.2.1 ?_|refine aI k.o.2.2.2.2.2.2.2.1 ?_);simp)|(with_reducible refine aM (fun _=>?_) (fun _=>?_)<;>simp)|with_reducible refine And.intro ?_ ?_|with_reducible exact aS rfl|with_reducible assumption|omega)):W P vl nt V (.reg ops false) st Kn Ke Kr:=nF r b (h ⟨k⟩) hn
theorem aL7 (e:E) (k:L) (hn:Kn ⟨[],st'.vars,st'.objs,st.nx+64*ops.length⟩) (h:Hid E->Hid L->RD V ops st st':=by intro e k K hK;simp [e.o];repeat' (first|with_reducible exact hK|((with_reducible first|refine aI k.o.1 ?_|refine aI k.o.2.1 ?_|refine aI k.o.2.2.1 ?_|refine aI k.o.2.2.2.1 ?_|refine aI k.o.2.2.2.2.1 ?_|refine aI k.o.2.2.2.2.2.1 ?_|refine aI k.o.2.2.2.2.2.2.1 ?_|refine aI k.o.2.2.2.2.2.2.2.1 ?_);simp [e.o])|(with_reducible refine aM (fun _=>?_) (fun _=>?_)<;>simp [e.o])|with_reducible refine And.intro ?_ ?_|with_reducible exact aS rfl|with_reducible assumption|omega)):W P vl nt V (.reg ops true) st Kn Ke Kr:=aBP (h ⟨e⟩ ⟨k⟩) hn
theorem aPM (e:E) (r:Nat) (b:Bool) (hn:Kn ⟨[],put st.vars r (.d (.bool b)),st.objs,st.nx+64*ops.length⟩) (h:Hid E->RB V ops st r b:=by intro e K hK;simp [e.o];repeat' (first|exact hK _ _ (by clear hK;exact bq)|(with_reducible refine aM (fun _=>?_) (fun _=>?_)<;>simp [e.o])|with_reducible refine And.intro ?_ ?_|with_reducible exact aS rfl|with_reducible assumption|omega)):W P vl nt V (.reg ops false) st Kn Ke Kr:=nF r b (h ⟨e⟩) hn
theorem aNA (e:E) (k:L) (r:Nat) (b:Bool) (hn:W P vl nt V a ⟨[],put st.vars r (.d (.bool b)),st.objs,st.nx+64*ops.length⟩ (fun s=>W P vl nt V b' s Kn Ke Kr) Ke Kr) (h:Hid E->Hid L->RB V ops st r b:=by intro e k K hK;simp [e.o];repeat' (first|exact hK _ _ (by clear hK;exact bq)|((with_reducible first|refine aI k.o.1 ?_|refine aI k.o.2.1 ?_|refine aI k.o.2.2.1 ?_|refine aI k.o.2.2.2.1 ?_|refine aI k.o.2.2.2.2.1 ?_|refine aI k.o.2.2.2.2.2.1 ?_|refine aI k.o.2.2.2.2.2.2.1 ?_|refine aI k.o.2.2.2.2.2.2.2.1 ?_);simp [e.o])|(with_reducible refine aM (fun _=>?_) (fun _=>?_)<;>simp [e.o])|with_reducible refine And.intro ?_ ?_|with_reducible exact aS rfl|with_reducible assumption|omega)):W P vl nt V (.seq (.seq (.reg ops false) a) b') st Kn Ke Kr:=aK (aK (nF r b (h ⟨e⟩ ⟨k⟩) hn))
theorem aTw (e:E) (r:Nat) (b:Bool) (hn:W P vl nt V a ⟨[],put st.vars r (.d (.bool b)),st.objs,st.nx+64*ops.length⟩ Kn Ke Kr) (h:Hid E->RE V ops st r b:=by intro e K hK;simp [e.o];repeat' (first|exact hK _ _ (by clear hK;exact bq)|(with_reducible refine aM (fun _=>?_) (fun _=>?_)<;>simp [e.o])|with_reducible refine And.intro ?_ ?_|with_reducible exact aS rfl|with_reducible assumption|omega)):W P vl nt V (.seq (.reg ops true) a) st Kn Ke Kr:=aK (aA8 r b (h ⟨e⟩) hn)
theorem aRJ (e:E) (hn:W P vl nt V a ⟨[],st'.vars,st'.objs,st.nx+64*ops.length⟩ (fun s=>W P vl nt V b' s Kn Ke Kr) Ke Kr) (h:Hid E->RS V ops st st':=by intro e K hK;simp [e.o];repeat' (first|with_reducible exact hK|(with_reducible refine aM (fun _=>?_) (fun _=>?_)<;>simp [e.o])|with_reducible refine And.intro ?_ ?_|with_reducible exact aS rfl|with_reducible assumption|omega)):W P vl nt V (.seq (.seq (.reg ops false) a) b') st Kn Ke Kr:=aK (aK (nD (h ⟨e⟩) hn))
theorem aTv (e:E) (k:L) (r:Nat) (b:Bool) (hn:Kn ⟨[],put st.vars r (.d (.bool b)),st.objs,st.nx+64*ops.length⟩) (h:Hid E->Hid L->RE V ops st r b:=by intro e k K hK;simp [e.o];repeat' (first|exact hK _ _ (by clear hK;exact bq)|((with_reducible first|refine aI k.o.1 ?_|refine aI k.o.2.1 ?_|refine aI k.o.2.2.1 ?_|refine aI k.o.2.2.2.1 ?_|refine aI k.o.2.2.2.2.1 ?_|refine aI k.o.2.2.2.2.2.1 ?_|refine aI k.o.2.2.2.2.2.2.1 ?_|refine aI k.o.2.2.2.2.2.2.2.1 ?_);simp [e.o])|(with_reducible refine aM (fun _=>?_) (fun _=>?_)<;>simp [e.o])|with_reducible refine And.intro ?_ ?_|with_reducible exact aS rfl|with_reducible assumption|omega)):W P vl nt V (.reg ops true) st Kn Ke Kr:=aA8 r b (h ⟨e⟩ ⟨k⟩) hn
theorem aRI (e:E) (hn:Kn ⟨[],st'.vars,st'.objs,st.nx+64*ops.length⟩) (h:Hid E->RD V ops st st':=by intro e K hK;simp [e.o];repeat' (first|with_reducible exact hK|(with_reducible refine aM (fun _=>?_) (fun _=>?_)<;>simp [e.o])|with_reducible refine And.intro ?_ ?_|with_reducible exact aS rfl|with_reducible assumption|omega)):W P vl nt V (.reg ops true) st Kn Ke Kr:=aBP (h ⟨e⟩) hn
theorem qX (k:L) (h:Hid L->p:=by intro k;(repeat' (first|refine aK ?_|refine aU ?_|refine bE ?_|refine dN ?_|refine cG rfl ?_|refine cU rfl ?_|((first|refine qG fun K hK=>?_|refine nE fun K hK=>?_|refine sN ?_|with_reducible refine aI k.o.1 ?_|with_reducible refine aI k.o.2.1 ?_|with_reducible refine aI k.o.2.2.1 ?_|with_reducible refine aI k.o.2.2.2.1 ?_|with_reducible refine aI k.o.2.2.2.2.1 ?_|with_reducible refine aI k.o.2.2.2.2.2.1 ?_|with_reducible refine aI k.o.2.2.2.2.2.2.1 ?_|with_reducible refine aI k.o.2.2.2.2.2.2.2.1 ?_);simp [Fin])|(with_reducible refine hK _ ?_;clear hK K)|(with_reducible refine aM (fun h=>?_) (fun h=>?_)<;>first|(exfalso;simp at h;first|done|omega|contradiction)|((try simp at h);simp))|with_reducible refine And.intro ?_ ?_|with_reducible exact aS rfl|with_reducible assumption|(refine aR rfl (fun h=>?_) (fun h=>?_)<;>first|(exfalso;simp at h;first|done|omega|contradiction)|(exfalso;simp_all;done)|(try simp at h))|omega));all_goals first|exact h0.o|exact h1.o|exact h2.o|exact h3.o):p:=h ⟨k⟩
theorem aPL (e:E) (k:L) (r:Nat) (b:Bool) (hn:W P vl nt V a ⟨[],put st.vars r (.d (.bool b)),st.objs,st.nx+64*ops.length⟩ (fun s=>W P vl nt V b' s Kn Ke Kr) Ke Kr) (h:Hid E->Hid L->RE V ops st r b:=by intro e k K hK;simp [e.o];repeat' (first|exact hK _ _ (by clear hK;exact bq)|((with_reducible first|refine aI k.o.1 ?_|refine aI k.o.2.1 ?_|refine aI k.o.2.2.1 ?_|refine aI k.o.2.2.2.1 ?_|refine aI k.o.2.2.2.2.1 ?_|refine aI k.o.2.2.2.2.2.1 ?_|refine aI k.o.2.2.2.2.2.2.1 ?_|refine aI k.o.2.2.2.2.2.2.2.1 ?_);simp [e.o])|(with_reducible refine aM (fun _=>?_) (fun _=>?_)<;>simp [e.o])|with_reducible refine And.intro ?_ ?_|with_reducible exact aS rfl|with_reducible assumption|omega)):W P vl nt V (.seq (.seq (.reg ops true) a) b') st Kn Ke Kr:=aK (aK (aA8 r b (h ⟨e⟩ ⟨k⟩) hn))
theorem aPK (k:L) (hn:Kn ⟨[],st'.vars,st'.objs,st.nx+64*ops.length⟩) (h:Hid L->RS V ops st st':=by intro k K hK;simp;repeat' (first|with_reducible exact hK|((with_reducible first|refine aI k.o.1 ?_|refine aI k.o.2.1 ?_|refine aI k.o.2.2.1 ?_|refine aI k.o.2.2.2.1 ?_|refine aI k.o.2.2.2.2.1 ?_|refine aI k.o.2.2.2.2.2.1 ?_|refine aI k.o.2.2.2.2.2.2.1 ?_|refine aI k.o.2.2.2.2.2.2.2.1 ?_);simp)|(with_reducible refine aM (fun _=>?_) (fun _=>?_)<;>simp)|with_reducible refine And.intro ?_ ?_|with_reducible exact aS rfl|with_reducible assumption|omega)):W P vl nt V (.reg ops false) st Kn Ke Kr:=nD (h ⟨k⟩) hn
theorem jI (e:E) (h:Hid E->p:=by intro e;(repeat' (first|refine aK ?_|refine aU ?_|refine bE ?_|refine dN ?_|refine cG rfl ?_|refine cU rfl ?_|((first|refine qG fun K hK=>?_|refine nE fun K hK=>?_|refine sN ?_);simp [Fin,e.o])|(with_reducible refine hK _ ?_;clear hK K)|(with_reducible refine aM (fun h=>?_) (fun h=>?_)<;>first|(exfalso;simp at h;first|done|omega|contradiction)|((try simp at h);simp [e.o]))|with_reducible refine And.intro ?_ ?_|with_reducible exact aS rfl|with_reducible assumption|(refine aR rfl (fun h=>?_) (fun h=>?_)<;>first|(exfalso;simp at h;first|done|omega|contradiction)|(exfalso;simp_all;done)|(try simp at h))|omega));all_goals first|exact h0.o|exact h1.o|exact h2.o|exact h3.o):p:=h ⟨e⟩
theorem iK (e:E) (h0:q0) (h:Hid E->Hid q0->p:=by intro e;intro h0;exact jI e.o):p:=h ⟨e⟩ ⟨h0⟩
theorem qW (h:p:=by simp [gc,bW,cZ,gcV,gcO,dZ,dI,fJ,bF,cB,cR,eC]):p:=h
theorem eJ (e:E) (k:L) (h:Hid E->Hid L->p:=by intro e k;(repeat' (first|refine aK ?_|refine aU ?_|refine bE ?_|refine dN ?_|refine cG rfl ?_|refine cU rfl ?_|((first|refine qG fun K hK=>?_|refine nE fun K hK=>?_|refine sN ?_|with_reducible refine aI k.o.1 ?_|with_reducible refine aI k.o.2.1 ?_|with_reducible refine aI k.o.2.2.1 ?_|with_reducible refine aI k.o.2.2.2.1 ?_|with_reducible refine aI k.o.2.2.2.2.1 ?_|with_reducible refine aI k.o.2.2.2.2.2.1 ?_|with_reducible refine aI k.o.2.2.2.2.2.2.1 ?_|with_reducible refine aI k.o.2.2.2.2.2.2.2.1 ?_);simp [Fin,e.o])|(with_reducible refine hK _ ?_;clear hK K)|(with_reducible refine aM (fun h=>?_) (fun h=>?_)<;>first|(exfalso;simp at h;first|done|omega|contradiction)|((try simp at h);simp [e.o]))|with_reducible refine And.intro ?_ ?_|with_reducible exact aS rfl|with_reducible assumption|(refine aR rfl (fun h=>?_) (fun h=>?_)<;>first|(exfalso;simp at h;first|done|omega|contradiction)|(exfalso;simp_all;done)|(try simp at h))|omega));all_goals first|exact h0.o|exact h1.o|exact h2.o|exact h3.o):p:=h ⟨e⟩ ⟨k⟩
theorem jH (e:E) (k:L) (h0:q0) (h:Hid E->Hid L->Hid q0->p:=by intro e k;intro h0;exact eJ e.o k.o):p:=h ⟨e⟩ ⟨k⟩ ⟨h0⟩
theorem kT (h0:q0) (h:Hid q0->p:=by intro h0;(simp [gc,bW,cZ,gcV,gcO,dZ,dI,fJ,bF,cB,cR,eC]);exact h0.o):p:=h ⟨h0⟩
theorem aRH (e:E) (k:L) (r:Nat) (b:Bool) (hn:W P vl nt V a ⟨[],put st.vars r (.d (.bool b)),st.objs,st.nx+64*ops.length⟩ Kn Ke Kr) (h:Hid E->Hid L->RB V ops st r b:=by intro e k K hK;simp [e.o];repeat' (first|exact hK _ _ (by clear hK;exact bq)|((with_reducible first|refine aI k.o.1 ?_|refine aI k.o.2.1 ?_|refine aI k.o.2.2.1 ?_|refine aI k.o.2.2.2.1 ?_|refine aI k.o.2.2.2.2.1 ?_|refine aI k.o.2.2.2.2.2.1 ?_|refine aI k.o.2.2.2.2.2.2.1 ?_|refine aI k.o.2.2.2.2.2.2.2.1 ?_);simp [e.o])|(with_reducible refine aM (fun _=>?_) (fun _=>?_)<;>simp [e.o])|with_reducible refine And.intro ?_ ?_|with_reducible exact aS rfl|with_reducible assumption|omega)):W P vl nt V (.seq (.reg ops false) a) st Kn Ke Kr:=aK (nF r b (h ⟨e⟩ ⟨k⟩) hn)
theorem oI (h:p:=by (repeat' (first|refine aK ?_|refine aU ?_|refine bE ?_|refine dN ?_|refine cG rfl ?_|refine cU rfl ?_|((first|refine qG fun K hK=>?_|refine nE fun K hK=>?_|refine sN ?_);simp [Fin])|(with_reducible refine hK _ ?_;clear hK K)|(with_reducible refine aM (fun h=>?_) (fun h=>?_)<;>first|(exfalso;simp at h;first|done|omega|contradiction)|((try simp at h);simp))|with_reducible refine And.intro ?_ ?_|with_reducible exact aS rfl|with_reducible assumption|(refine aR rfl (fun h=>?_) (fun h=>?_)<;>first|(exfalso;simp at h;first|done|omega|contradiction)|(exfalso;simp_all;done)|(try simp at h))|omega));all_goals first|exact h0.o|exact h1.o|exact h2.o|exact h3.o):p:=h
theorem lQ (h0:q0) (h:Hid q0->p:=by intro h0;exact oI):p:=h ⟨h0⟩
theorem iR (e:E) (h:Hid E->p:=by intro e;simp [gc,bW,cZ,gcV,gcO,dZ,dI,fJ,bF,cB,cR,eC,e.o]):p:=h ⟨e⟩
theorem aCQ (e:E) (h0:q0) (h:Hid E->Hid q0->p:=by intro e;intro h0;(simp [gc,bW,cZ,gcV,gcO,dZ,dI,fJ,bF,cB,cR,eC,e.o]);exact h0.o):p:=h ⟨e⟩ ⟨h0⟩
theorem aJ1 (k:L) (h0:q0) (h:Hid L->Hid q0->p:=by intro k;intro h0;exact qX k.o):p:=h ⟨k⟩ ⟨h0⟩
theorem aTu (h0:q0) (h:Hid q0->p:=by intro h0;(simp [gc,bW,cZ,gcV,gcO,dZ,dI,fJ,bF,cB,cR,eC,<-aN4]);exact h0.o):p:=h ⟨h0⟩
theorem aTt (h0:q0) (h:Hid q0->p:=by intro h0;(simp [gc,bW,cZ,gcV,gcO,dZ,dI,fJ,bF,cB,cR,eC,<-aMe]);exact h0.o):p:=h ⟨h0⟩
theorem aTs (e:E) (k:L) (h:Hid E->Hid L->p:=by intro e k;(repeat' (first|refine lF ?_|refine gZ ?_|refine iG ?_|refine iA ?_|refine kE ?_|refine cG rfl ?_|refine cU rfl ?_|((first|refine jD fun K hK=>?_|refine gQ fun K hK=>?_|with_reducible refine aI k.o.1 ?_|with_reducible refine aI k.o.2.1 ?_|with_reducible refine aI k.o.2.2.1 ?_|with_reducible refine aI k.o.2.2.2.1 ?_|with_reducible refine aI k.o.2.2.2.2.1 ?_|with_reducible refine aI k.o.2.2.2.2.2.1 ?_|with_reducible refine aI k.o.2.2.2.2.2.2.1 ?_|with_reducible refine aI k.o.2.2.2.2.2.2.2.1 ?_);simp [Fin,e.o])|(with_reducible refine hK _ ?_;clear hK K)|(with_reducible refine aM (fun h=>?_) (fun h=>?_)<;>first|(exfalso;simp at h;first|done|omega|contradiction)|((try simp at h);simp [e.o]))|with_reducible refine And.intro ?_ ?_|with_reducible exact aS rfl|with_reducible assumption|(refine fH rfl (fun h=>?_) (fun h=>?_)<;>first|(exfalso;simp at h;first|done|omega|contradiction)|(exfalso;simp_all;done)|(try simp at h))|omega));all_goals first|exact h0.o|exact h1.o|exact h2.o|exact h3.o):p:=h ⟨e⟩ ⟨k⟩
theorem cI (e:E) (k:L) (h0:q0) (h:Hid E->Hid L->Hid q0->p:=by intro e k;intro h0;exact aTs e.o k.o):p:=h ⟨e⟩ ⟨k⟩ ⟨h0⟩
theorem aD6 (r:Nat) (b:Bool) (hn:W P vl nt V a ⟨[],put st.vars r (.d (.bool b)),st.objs,st.nx+64*ops.length⟩ (fun s=>W P vl nt V b' s Kn Ke Kr) Ke Kr) (h:RB V ops st r b:=by intro K hK;simp;repeat' (first|exact hK _ _ (by clear hK;exact bq)|(with_reducible refine aM (fun _=>?_) (fun _=>?_)<;>simp)|with_reducible refine And.intro ?_ ?_|with_reducible exact aS rfl|with_reducible assumption|omega)):W P vl nt V (.seq (.seq (.reg ops false) a) b') st Kn Ke Kr:=aK (aK (nF r b (h) hn))
theorem aRG (e:E) (r:Nat) (b:Bool) (hn:W P vl nt V a ⟨[],put st.vars r (.d (.bool b)),st.objs,st.nx+64*ops.length⟩ (fun s=>W P vl nt V b' s Kn Ke Kr) Ke Kr) (h:Hid E->RB V ops st r b:=by intro e K hK;simp [e.o];repeat' (first|exact hK _ _ (by clear hK;exact bq)|(with_reducible refine aM (fun _=>?_) (fun _=>?_)<;>simp [e.o])|with_reducible refine And.intro ?_ ?_|with_reducible exact aS rfl|with_reducible assumption|omega)):W P vl nt V (.seq (.seq (.reg ops false) a) b') st Kn Ke Kr:=aK (aK (nF r b (h ⟨e⟩) hn))
theorem aTr (e:E) (r:Nat) (b:Bool) (hn:W P vl nt V a ⟨[],put st.vars r (.d (.bool b)),st.objs,st.nx+64*ops.length⟩ Kn Ke Kr) (h:Hid E->RB V ops st r b:=by intro e K hK;simp [e.o];repeat' (first|exact hK _ _ (by clear hK;exact bq)|(with_reducible refine aM (fun _=>?_) (fun _=>?_)<;>simp [e.o])|with_reducible refine And.intro ?_ ?_|with_reducible exact aS rfl|with_reducible assumption|omega)):W P vl nt V (.seq (.reg ops false) a) st Kn Ke Kr:=aK (nF r b (h ⟨e⟩) hn)
theorem aTq (e:E) (k:L) (hn:W P vl nt V a ⟨[],st'.vars,st'.objs,st.nx+64*ops.length⟩ (fun s=>W P vl nt V b' s Kn Ke Kr) Ke Kr) (h:Hid E->Hid L->RD V ops st st':=by intro e k K hK;simp [e.o];repeat' (first|with_reducible exact hK|((with_reducible first|refine aI k.o.1 ?_|refine aI k.o.2.1 ?_|refine aI k.o.2.2.1 ?_|refine aI k.o.2.2.2.1 ?_|refine aI k.o.2.2.2.2.1 ?_|refine aI k.o.2.2.2.2.2.1 ?_|refine aI k.o.2.2.2.2.2.2.1 ?_|refine aI k.o.2.2.2.2.2.2.2.1 ?_);simp [e.o])|(with_reducible refine aM (fun _=>?_) (fun _=>?_)<;>simp [e.o])|with_reducible refine And.intro ?_ ?_|with_reducible exact aS rfl|with_reducible assumption|omega)):W P vl nt V (.seq (.seq (.reg ops true) a) b') st Kn Ke Kr:=aK (aK (aBP (h ⟨e⟩ ⟨k⟩) hn))
theorem aTp (h:p:=by (repeat' (first|refine lF ?_|refine gZ ?_|refine iG ?_|refine iA ?_|refine kE ?_|refine cG rfl ?_|refine cU rfl ?_|((first|refine jD fun K hK=>?_|refine gQ fun K hK=>?_);simp [Fin])|(with_reducible refine hK _ ?_;clear hK K)|(with_reducible refine aM (fun h=>?_) (fun h=>?_)<;>first|(exfalso;simp at h;first|done|omega|contradiction)|((try simp at h);simp))|with_reducible refine And.intro ?_ ?_|with_reducible exact aS rfl|with_reducible assumption|(refine fH rfl (fun h=>?_) (fun h=>?_)<;>first|(exfalso;simp at h;first|done|omega|contradiction)|(exfalso;simp_all;done)|(try simp at h))|omega));all_goals first|exact h0.o|exact h1.o|exact h2.o|exact h3.o):p:=h
theorem lH (h0:q0) (h:Hid q0->p:=by intro h0;exact aTp):p:=h ⟨h0⟩
theorem eI (h:p:=by simp [gc,bW,cZ,gcV,gcO,dZ,dI,fJ,bF,cB,cR,eC]):p:=h
theorem aRF (e:E) (h:Hid E->p:=by intro e;(repeat' (first|refine lF ?_|refine gZ ?_|refine iG ?_|refine iA ?_|refine kE ?_|refine cG rfl ?_|refine cU rfl ?_|((first|refine jD fun K hK=>?_|refine gQ fun K hK=>?_);simp [Fin,e.o])|(with_reducible refine hK _ ?_;clear hK K)|(with_reducible refine aM (fun h=>?_) (fun h=>?_)<;>first|(exfalso;simp at h;first|done|omega|contradiction)|((try simp at h);simp [e.o]))|with_reducible refine And.intro ?_ ?_|with_reducible exact aS rfl|with_reducible assumption|(refine fH rfl (fun h=>?_) (fun h=>?_)<;>first|(exfalso;simp at h;first|done|omega|contradiction)|(exfalso;simp_all;done)|(try simp at h))|omega));all_goals first|exact h0.o|exact h1.o|exact h2.o|exact h3.o):p:=h ⟨e⟩
theorem aPJ (e:E) (h0:q0) (h1:q1) (h:Hid E->Hid q0->Hid q1->p:=by intro e;intro h0 h1;exact aRF e.o):p:=h ⟨e⟩ ⟨h0⟩ ⟨h1⟩
theorem dL (e:E) (h:Hid E->p:=by intro e;simp [gc,bW,cZ,gcV,gcO,dZ,dI,fJ,bF,cB,cR,eC,e.o]):p:=h ⟨e⟩
theorem aPI (h0:q0) (h1:q1) (h:Hid q0->Hid q1->p:=by intro h0 h1;exact aTp):p:=h ⟨h0⟩ ⟨h1⟩
theorem aRE (e:E) (k:L) (h0:q0) (h1:q1) (h:Hid E->Hid L->Hid q0->Hid q1->p:=by intro e k;intro h0 h1;exact aTs e.o k.o):p:=h ⟨e⟩ ⟨k⟩ ⟨h0⟩ ⟨h1⟩
theorem aTo (k:L) (h:Hid L->p:=by intro k;(repeat' (first|refine lF ?_|refine gZ ?_|refine iG ?_|refine iA ?_|refine kE ?_|refine cG rfl ?_|refine cU rfl ?_|((first|refine jD fun K hK=>?_|refine gQ fun K hK=>?_|with_reducible refine aI k.o.1 ?_|with_reducible refine aI k.o.2.1 ?_|with_reducible refine aI k.o.2.2.1 ?_|with_reducible refine aI k.o.2.2.2.1 ?_|with_reducible refine aI k.o.2.2.2.2.1 ?_|with_reducible refine aI k.o.2.2.2.2.2.1 ?_|with_reducible refine aI k.o.2.2.2.2.2.2.1 ?_|with_reducible refine aI k.o.2.2.2.2.2.2.2.1 ?_);simp [Fin])|(with_reducible refine hK _ ?_;clear hK K)|(with_reducible refine aM (fun h=>?_) (fun h=>?_)<;>first|(exfalso;simp at h;first|done|omega|contradiction)|((try simp at h);simp))|with_reducible refine And.intro ?_ ?_|with_reducible exact aS rfl|with_reducible assumption|(refine fH rfl (fun h=>?_) (fun h=>?_)<;>first|(exfalso;simp at h;first|done|omega|contradiction)|(exfalso;simp_all;done)|(try simp at h))|omega));all_goals first|exact h0.o|exact h1.o|exact h2.o|exact h3.o):p:=h ⟨k⟩
theorem dJ (k:L) (h0:q0) (h:Hid L->Hid q0->p:=by intro k;intro h0;exact aTo k.o):p:=h ⟨k⟩ ⟨h0⟩
theorem iD (e:E) (h0:q0) (h:Hid E->Hid q0->p:=by intro e;intro h0;exact aRF e.o):p:=h ⟨e⟩ ⟨h0⟩
theorem aTn (e:E) (h0:q0) (h1:q1) (h2:q2) (h:Hid E->Hid q0->Hid q1->Hid q2->p:=by intro e;intro h0 h1 h2;exact aRF e.o):p:=h ⟨e⟩ ⟨h0⟩ ⟨h1⟩ ⟨h2⟩
theorem oS (hn:Dt P vl nt V a ⟨[],st'.vars,st'.objs,st.nx+64*ops.length⟩ Kn Ke Kr) (h:RS V ops st st':=by intro K hK;simp;repeat' (first|with_reducible exact hK|(with_reducible refine aM (fun _=>?_) (fun _=>?_)<;>simp)|with_reducible refine And.intro ?_ ?_|with_reducible exact aS rfl|with_reducible assumption|omega)):Dt P vl nt V (.seq (.reg ops false) a) st Kn Ke Kr:=gZ (vM (h) hn)
theorem aCP (k:L) (hn:Dt P vl nt V a ⟨[],st'.vars,st'.objs,st.nx+64*ops.length⟩ Kn Ke Kr) (h:Hid L->RS V ops st st':=by intro k K hK;simp;repeat' (first|with_reducible exact hK|((with_reducible first|refine aI k.o.1 ?_|refine aI k.o.2.1 ?_|refine aI k.o.2.2.1 ?_|refine aI k.o.2.2.2.1 ?_|refine aI k.o.2.2.2.2.1 ?_|refine aI k.o.2.2.2.2.2.1 ?_|refine aI k.o.2.2.2.2.2.2.1 ?_|refine aI k.o.2.2.2.2.2.2.2.1 ?_);simp)|(with_reducible refine aM (fun _=>?_) (fun _=>?_)<;>simp)|with_reducible refine And.intro ?_ ?_|with_reducible exact aS rfl|with_reducible assumption|omega)):Dt P vl nt V (.seq (.reg ops false) a) st Kn Ke Kr:=gZ (vM (h ⟨k⟩) hn)
theorem aPH (e:E) (hn:Dt P vl nt V a ⟨[],st'.vars,st'.objs,st.nx+64*ops.length⟩ Kn Ke Kr) (h:Hid E->RS V ops st st':=by intro e K hK;simp [e.o];repeat' (first|with_reducible exact hK|(with_reducible refine aM (fun _=>?_) (fun _=>?_)<;>simp [e.o])|with_reducible refine And.intro ?_ ?_|with_reducible exact aS rfl|with_reducible assumption|omega)):Dt P vl nt V (.seq (.reg ops false) a) st Kn Ke Kr:=gZ (vM (h ⟨e⟩) hn)
theorem aNz (k:L) (h0:q0) (h1:q1) (h:Hid L->Hid q0->Hid q1->p:=by intro k;intro h0 h1;exact aTo k.o):p:=h ⟨k⟩ ⟨h0⟩ ⟨h1⟩
theorem aRD (k:L) (hn:Dt P vl nt V a ⟨[],st'.vars,st'.objs,st.nx+64*ops.length⟩ (fun s=>Dt P vl nt V b' s Kn Ke Kr) Ke Kr) (h:Hid L->RS V ops st st':=by intro k K hK;simp;repeat' (first|with_reducible exact hK|((with_reducible first|refine aI k.o.1 ?_|refine aI k.o.2.1 ?_|refine aI k.o.2.2.1 ?_|refine aI k.o.2.2.2.1 ?_|refine aI k.o.2.2.2.2.1 ?_|refine aI k.o.2.2.2.2.2.1 ?_|refine aI k.o.2.2.2.2.2.2.1 ?_|refine aI k.o.2.2.2.2.2.2.2.1 ?_);simp)|(with_reducible refine aM (fun _=>?_) (fun _=>?_)<;>simp)|with_reducible refine And.intro ?_ ?_|with_reducible exact aS rfl|with_reducible assumption|omega)):Dt P vl nt V (.seq (.seq (.reg ops false) a) b') st Kn Ke Kr:=gZ (gZ (vM (h ⟨k⟩) hn))
theorem aRC (e:E) (hn:Dt P vl nt V a ⟨[],st'.vars,st'.objs,st.nx+64*ops.length⟩ (fun s=>Dt P vl nt V b' s Kn Ke Kr) Ke Kr) (h:Hid E->RS V ops st st':=by intro e K hK;simp [e.o];repeat' (first|with_reducible exact hK|(with_reducible refine aM (fun _=>?_) (fun _=>?_)<;>simp [e.o])|with_reducible refine And.intro ?_ ?_|with_reducible exact aS rfl|with_reducible assumption|omega)):Dt P vl nt V (.seq (.seq (.reg ops false) a) b') st Kn Ke Kr:=gZ (gZ (vM (h ⟨e⟩) hn))
theorem aTm (hn:Dt P vl nt V a ⟨[],st'.vars,st'.objs,st.nx+64*ops.length⟩ (fun s=>Dt P vl nt V b' s Kn Ke Kr) Ke Kr) (h:RS V ops st st':=by intro K hK;simp;repeat' (first|with_reducible exact hK|(with_reducible refine aM (fun _=>?_) (fun _=>?_)<;>simp)|with_reducible refine And.intro ?_ ?_|with_reducible exact aS rfl|with_reducible assumption|omega)):Dt P vl nt V (.seq (.seq (.reg ops false) a) b') st Kn Ke Kr:=gZ (gZ (vM (h) hn))
end
theorem aA {n:Int} (h1:-9223372036854775808<=n) (h2:n<=9223372036854775807):IntKind.i64.wrap n=n:=by
 rw [IntKind.wrap_i64];omega
theorem vE {a:List UInt8} {i:Nat} {x:UInt8} (ha:a[i]?=some x):aB (a.take (i+1))=aB (a.take i)++[[.int .u8 x.toNat]]:=by
 rw [List.take_add_one,ha];simp [aB]
theorem aDm (s:List UInt8):qR (aB s)=some s:=by
 induction s with
 |nil=>rfl
 |cons x s ih=>simp [aB,qR] at ih ⊢;exact ih
theorem fA (s:List UInt8):aIz (.slc 1 (aB s))=out (.d (.str s)):=by
 cases s with
 |nil=>rfl
 |cons x s=>simp only [aIz,aDm];simp [aB]
theorem aJ3 {a:List (List UInt8)} {i:Nat} {x:(List UInt8)} (ha:a[i]?=some x):aN (a.take (i+1))=aN (a.take i)++[[.str x]]:=by
 rw [List.take_add_one,ha];simp [aN]
theorem bA (x lo hi:Int):aE PP GG 12 [.d (.int .i64 x),.d (.int .i64 lo),.d (.int .i64 hi)] (.d (.bool (decide (lo<=x) && decide (x<=hi)))) [none,none,none]:=by
 refine cv Tryz.func12 [.d (.bool (decide (lo<=x) && decide (x<=hi)))] ?_
 refine u_1 ?_
 refine u_2 6 (decide (lo<=x) && decide (x<=hi)) ?_
 exact u_3
theorem vO (x lo hi:Int):aE PP GG 15 [.d (.int .i64 x),.d (.int .i64 lo),.d (.int .i64 hi)] (.d (.bool (decide (lo<=x) && decide (x<=hi)))) [none,none,none]:=by
 refine cv Tryz.func15 [.d (.bool (decide (lo<=x) && decide (x<=hi)))] ?_
 refine u_1 ?_
 refine u_2 6 (decide (lo<=x) && decide (x<=hi)) ?_
 exact u_3
theorem aDB (x:Int):aE PP GG 33 [.d (.int .i64 x)] (.d (.bool (!(decide (-1099511627776<=x) && decide (x<=1099511627776))))) [none]:=by
 refine cv Tryz.func33 [.d (.bool (!(decide (-1099511627776<=x) && decide (x<=1099511627776))))] ?_
 refine u_1 ?_
 refine aK (?_)
 apply nD
 ·intro K hK
  simp
  repeat' (first|with_reducible exact hK|(with_reducible refine aI (vO _ _ _) ?_;simp)|(with_reducible refine aM (fun _=>?_) (fun _=>?_)<;>simp)|with_reducible refine And.intro ?_ ?_|with_reducible exact aS rfl|with_reducible assumption|omega)
 exact u_3
theorem aDA (s:List UInt8):aE PP GG 35 [.d (.str s)] (.d (.bool (decide (300<s.length)))) [none]:=by
 refine cv Tryz.func35 [.d (.bool (decide (300<s.length)))] ?_
 refine u_1 ?_
 refine u_1 ?_
 exact u_3
def qT (p:Int->Bool) (a:List Int):Int:=match a.findIdx? p with|some i=>i|none=>-1
theorem aCv (a:List Int) (g:FuncId) (p:Int->Bool) (hsz:a.length<=281474976710656) (hp:∀ x,x∈a->aE PP GG g [.d (.int .i64 x)] (.d (.bool (p x))) [none]):
  aE PP GG 47 [.d (.slc 1 (bB a)),.d (.fn g [])] (.d (.int .i64 (qT p a))) [none,none]:=by
 refine cv Tryz.func47 [.d (.int .i64 (qT p a))] ?_
 refine u_1 ?_
 refine u_4 ?_
 refine bE (bQ (fun n st=>∃ i:Nat,n=a.length-i/\i<=a.length/\(∀ x,x∈a.take i->p x=false) ∧
  st=⟨[],[(0,.d (.slc 1 (bB a))),(1,.d (.fn g [])),(7,.d (.int .i64 a.length)),(8,.d (.int .i64 i))],[],0⟩) _ ⟨0,rfl,by omega,fun x hx=>by simp at hx,rfl⟩ ?_)
 rintro n st ⟨i,rfl,hi,hn,rfl⟩
 refine u_1 ?_
 refine aK (?_)
 refine aR rfl (fun h=>aU ?_) (fun h=>dN ?_)
 ·simp at h
  have ha:=List.getElem?_eq_getElem h
  have hm:=List.getElem_mem h
  generalize a[i]=x at ha hm
  refine aK (bE (aK ?_))
  refine u_5 ?_
  refine u_6 ha (Z1 (hp x hm)) ?_
  refine aR rfl (fun h2=>aK ?_) (fun h2=>aU ?_)
  ·refine u_5 ?_
   have e:qT p a=i:=by
    unfold qT
    have:a.findIdx? p=some i:=by
     rw [List.findIdx?_eq_some_iff_getElem]
     refine ⟨h,?_,fun j hj=>?_⟩
     ·have:=(List.getElem?_eq_some_iff.1 ha).2;rw [this];exact h2
     ·have:=hn a[j] (List.mem_take_iff_getElem.2 ⟨j,by omega,rfl⟩);simp [this]
    rw [this]
   exact u_7 e
  refine u_5 ?_
  refine ⟨a.length-(i+1),by omega,i+1,rfl,h,fun y hy=>?_,by simp [gc,bW,cZ,gcV,gcO,dZ,bF,cB];rw [aA (by omega) (by omega)]⟩
  rw [List.take_add_one,ha] at hy
  rcases List.mem_append.1 hy with hy|hy
  ·exact hn y hy
  ·simp at hy;subst hy;exact h2
 ·simp at h
  rw [if_pos rfl]
  refine u_1 ?_
  have e:qT p a=-1:=by
   unfold qT
   have:a.findIdx? p=none:=by
    rw [List.findIdx?_eq_none_iff]
    intro x hx
    exact hn x (by rwa [List.take_of_length_le h])
   rw [this]
  exact u_7 e
theorem aAe (a:List Int) (g:FuncId) (p:Int->Bool) (hsz:a.length<=281474976710656) (hp:∀ x,x∈a->aE PP GG g [.d (.int .i64 x)] (.d (.bool (p x))) [none]):
  aE PP GG 32 [.d (.slc 1 (bB a)),.d (.fn g [])] (.d (.bool (a.any p))) [none,none]:=by
 refine cv Tryz.func32 [.d (.bool (a.any p))] ?_
 refine u_1 ?_
 refine u_8 (Z1 (aCv a g p hsz hp)) ?_
 have e:decide (0<=qT p a)=a.any p:=by
  unfold qT
  cases h:a.findIdx? p with
  |none=>
   rw [List.findIdx?_eq_none_iff] at h
   have:a.any p=false:=by rw [List.any_eq_false];intro x hx;simp [h x hx]
   rw [this];rfl
  |some i=>
   rw [List.findIdx?_eq_some_iff_getElem] at h
   obtain ⟨h1,h2,_⟩:=h
   have:a.any p=true:=by rw [List.any_eq_true];exact ⟨_,List.getElem_mem h1,h2⟩
   rw [this];simp
 exact u_7 e
def kZ (p:(List UInt8)->Bool) (a:List (List UInt8)):Int:=match a.findIdx? p with|some i=>i|none=>-1
theorem aAd (a:List (List UInt8)) (g:FuncId) (p:(List UInt8)->Bool) (hsz:a.length<=281474976710656) (hp:∀ x,x∈a->aE PP GG g [.d (.str x)] (.d (.bool (p x))) [none]):
  aE PP GG 48 [.d (.slc 1 (aN a)),.d (.fn g [])] (.d (.int .i64 (kZ p a))) [none,none]:=by
 refine cv Tryz.func48 [.d (.int .i64 (kZ p a))] ?_
 refine u_1 ?_
 refine u_4 ?_
 refine bE (bQ (fun n st=>∃ i:Nat,n=a.length-i/\i<=a.length/\(∀ x,x∈a.take i->p x=false) ∧
  st=⟨[],[(0,.d (.slc 1 (aN a))),(1,.d (.fn g [])),(7,.d (.int .i64 a.length)),(8,.d (.int .i64 i))],[],0⟩) _ ⟨0,rfl,by omega,fun x hx=>by simp at hx,rfl⟩ ?_)
 rintro n st ⟨i,rfl,hi,hn,rfl⟩
 refine u_1 ?_
 refine aK (?_)
 refine aR rfl (fun h=>aU ?_) (fun h=>dN ?_)
 ·simp at h
  have ha:=List.getElem?_eq_getElem h
  have hm:=List.getElem_mem h
  generalize a[i]=x at ha hm
  refine aK (bE (aK ?_))
  refine u_5 ?_
  refine u_6 ha (Z1 (hp x hm)) ?_
  refine aR rfl (fun h2=>aK ?_) (fun h2=>aU ?_)
  ·refine u_5 ?_
   have e:kZ p a=i:=by
    unfold kZ
    have:a.findIdx? p=some i:=by
     rw [List.findIdx?_eq_some_iff_getElem]
     refine ⟨h,?_,fun j hj=>?_⟩
     ·have:=(List.getElem?_eq_some_iff.1 ha).2;rw [this];exact h2
     ·have:=hn a[j] (List.mem_take_iff_getElem.2 ⟨j,by omega,rfl⟩);simp [this]
    rw [this]
   exact u_7 e
  refine u_5 ?_
  refine ⟨a.length-(i+1),by omega,i+1,rfl,h,fun y hy=>?_,by simp [gc,bW,cZ,gcV,gcO,dZ,bF,cB];rw [aA (by omega) (by omega)]⟩
  rw [List.take_add_one,ha] at hy
  rcases List.mem_append.1 hy with hy|hy
  ·exact hn y hy
  ·simp at hy;subst hy;exact h2
 ·simp at h
  rw [if_pos rfl]
  refine u_1 ?_
  have e:kZ p a=-1:=by
   unfold kZ
   have:a.findIdx? p=none:=by
    rw [List.findIdx?_eq_none_iff]
    intro x hx
    exact hn x (by rwa [List.take_of_length_le h])
   rw [this]
  exact u_7 e
theorem uH (a:List (List UInt8)) (g:FuncId) (p:(List UInt8)->Bool) (hsz:a.length<=281474976710656) (hp:∀ x,x∈a->aE PP GG g [.d (.str x)] (.d (.bool (p x))) [none]):
  aE PP GG 34 [.d (.slc 1 (aN a)),.d (.fn g [])] (.d (.bool (a.any p))) [none,none]:=by
 refine cv Tryz.func34 [.d (.bool (a.any p))] ?_
 refine u_1 ?_
 refine u_8 (Z1 (aAd a g p hsz hp)) ?_
 have e:decide (0<=kZ p a)=a.any p:=by
  unfold kZ
  cases h:a.findIdx? p with
  |none=>
   rw [List.findIdx?_eq_none_iff] at h
   have:a.any p=false:=by rw [List.any_eq_false];intro x hx;simp [h x hx]
   rw [this];rfl
  |some i=>
   rw [List.findIdx?_eq_some_iff_getElem] at h
   obtain ⟨h1,h2,_⟩:=h
   have:a.any p=true:=by rw [List.any_eq_true];exact ⟨_,List.getElem_mem h1,h2⟩
   rw [this];simp
 exact u_7 e
def wM (x:Int):Bool:=decide (-1099511627776<=x) && decide (x<=1099511627776)
def oT (s:List UInt8):Bool:=decide ((s.length:Int)<=300)
def jE (k:Int) (ns:List Int) (ts:List (List UInt8)):Bool:=
 (decide (0<=k) && decide (k<=99)) && (decide ((ns.length:Int)<=40) && (decide ((ts.length:Int)<=40) && (ns.all wM && ts.all oT)))
theorem aQT {α:Type} (l:List α) (p:α->Bool):(!(l.any fun x=>!p x))=l.all p:=by
 induction l with
 |nil=>rfl
 |cons x l ih=>simp only [List.any_cons,List.all_cons,Bool.not_or,Bool.not_not,ih]
theorem aPm {α:Type} (l:List α) (p:α->Bool):(l.any fun x=>!p x)=!(l.all p):=by
 rw [<-aQT,Bool.not_not]
theorem aB9 (k:Int) (ns:List Int) (ts:List (List UInt8)) (h1:ns.length<=281474976710656) (h2:ts.length<=281474976710656):
  aE PP GG 16 [.agg [.d (.int .i64 k),.d (.slc 1 (bB ns)),.d (.slc 1 (aN ts))]] (.d (.bool (jE k ns ts))) [none]:=by
 refine cv Tryz.func16 [.d (.bool (jE k ns ts))] ?_
 have c1:=aAe ns 33 (fun x=>!wM x) h1 (fun x _=>aDB x)
 have c2:=uH ts 35 (fun s=>!oT s) h2 (fun x _=>by
  have:=aDA x
  have e:decide (300<x.length)=!oT x:=by simp only [oT];by_cases h:300<x.length<;>simp [h]<;>omega
  rwa [e] at this)
 rw [aPm] at c1 c2
 have hr:=jE.eq_1 k ns ts
 generalize ns.all wM=b1 at c1 hr
 generalize ts.all oT=b2 at c2 hr
 refine u_1 ?_
 refine u_9 (Z3 vO c1 c2) 2 (jE k ns ts) ?_
 exact u_3
theorem oC (k:Int) (ns:List Int) (ts:List (List UInt8)) (h1:ns.length<=281474976710656) (h2:ts.length<=281474976710656):
  aE PP GG 13 [.agg [.d (.int .i64 k),.d (.slc 1 (bB ns)),.d (.slc 1 (aN ts))]] (.d (.bool (jE k ns ts))) [none]:=by
 refine cv Tryz.func13 [.d (.bool (jE k ns ts))] ?_
 refine u_1 ?_
 refine aTx (Z1 bA) 20 (!(decide (0<=k) && decide (k<=99)) || (decide (40<(ns.length:Int)) || decide (40<(ts.length:Int)))) ?_
 refine aR rfl (fun h=>aK ?_) (fun hc=>aU ?_)
 ·refine u_5 ?_
  have:jE k ns ts=false:=by
   unfold jE
   simp at h ⊢
   intro a1 a2 a3 a4
   exfalso
   omega
  exact u_7 this
 simp at hc
 obtain ⟨⟨hk1,hk2⟩,hn,ht⟩:=hc
 refine u_4 ?_
 refine bE (bQ (fun n st=>∃ i:Nat,n=ns.length-i/\i<=ns.length/\(∀ x,x∈ns.take i->wM x=true) ∧
  st=⟨[],[(1,.ptr 0 0),(3,.d (.int .i64 i))],[(0,.box [.d (.int .i64 k),.d (.slc 1 (bB ns)),.d (.slc 1 (aN ts))])],1⟩) _ ⟨0,rfl,by omega,fun x hx=>by simp at hx,rfl⟩ ?_)
 rintro n st ⟨i,rfl,hi,hall,rfl⟩
 refine u_4 ?_
 refine aR rfl (fun h=>aU ?_) (fun h=>dN ?_)
 ·simp at h
  have ha:=List.getElem?_eq_getElem h
  have hm:=List.getElem_mem h
  generalize ns[i]=x at ha hm
  refine aK (bE (aK ?_))
  apply nD
  ·intro K hK
   simp [ha]
   repeat' (first|with_reducible exact hK|(with_reducible refine aI (bA _ _ _) ?_;simp [ha])|(with_reducible refine aM (fun _=>?_) (fun _=>?_)<;>simp [ha])|with_reducible refine And.intro ?_ ?_|with_reducible exact aS rfl|with_reducible assumption|omega)
  refine aR rfl (fun h3=>aK ?_) (fun h3=>aU ?_)
  ·refine u_5 ?_
   have:jE k ns ts=false:=by
    have:ns.all wM=false:=by
     rw [List.all_eq_false]
     refine ⟨x,hm,?_⟩
     unfold wM
     simp at h3 ⊢
     omega
    simp only [jE,this,Bool.false_and,Bool.and_false]
   exact u_7 this
  refine u_5 ?_
  have h3':wM x=true:=by unfold wM;simpa using h3
  refine ⟨ns.length-(i+1),by omega,i+1,rfl,h,fun y hy=>?_,by simp [gc,bW,cZ,gcV,gcO,dZ,dI,fJ,bF,cB,cR,eC];rw [aA (by omega) (by omega)]⟩
  rw [List.take_add_one,ha] at hy
  rcases List.mem_append.1 hy with hy|hy
  ·exact hall y hy
  ·simp at hy;subst hy;exact h3'
 simp at h
 rw [if_pos rfl]
 have hA:ns.all wM=true:=by
  rw [List.all_eq_true]
  intro x hx
  exact hall x (by rwa [List.take_of_length_le h])
 refine u_4 ?_
 refine bE (bQ (fun n st=>∃ i:Nat,n=ts.length-i/\i<=ts.length/\(∀ x,x∈ts.take i->oT x=true) ∧
  st=⟨[],[(1,.ptr 0 0),(4,.d (.int .i64 i))],[(0,.box [.d (.int .i64 k),.d (.slc 1 (bB ns)),.d (.slc 1 (aN ts))])],1⟩) _ ⟨0,rfl,by omega,fun x hx=>by simp at hx,rfl⟩ ?_)
 rintro n st ⟨j,rfl,hj,hallt,rfl⟩
 refine u_4 ?_
 refine aR rfl (fun h=>aU ?_) (fun h=>dN ?_)
 ·simp at h
  have ha:=List.getElem?_eq_getElem h
  have hm:=List.getElem_mem h
  generalize ts[j]=x at ha hm
  refine aK (bE (aK ?_))
  refine jJ ha ?_
  refine aR rfl (fun h3=>aK ?_) (fun h3=>aU ?_)
  ·refine u_5 ?_
   have:jE k ns ts=false:=by
    have:ts.all oT=false:=by
     rw [List.all_eq_false]
     refine ⟨x,hm,?_⟩
     unfold oT
     simp at h3 ⊢
     omega
    simp only [jE,this,Bool.and_false]
   exact u_7 this
  refine u_5 ?_
  have h3':oT x=true:=by unfold oT;simp at h3 ⊢;omega
  refine ⟨ts.length-(j+1),by omega,j+1,rfl,h,fun y hy=>?_,by simp [gc,bW,cZ,gcV,gcO,dZ,dI,fJ,bF,cB,cR,eC];rw [aA (by omega) (by omega)]⟩
  rw [List.take_add_one,ha] at hy
  rcases List.mem_append.1 hy with hy|hy
  ·exact hallt y hy
  ·simp at hy;subst hy;exact h3'
 simp at h
 rw [if_pos rfl]
 have hT:ts.all oT=true:=by
  rw [List.all_eq_true]
  intro x hx
  exact hallt x (by rwa [List.take_of_length_le h])
 refine u_1 ?_
 have:jE k ns ts=true:=by
  simp only [jE,hA,hT,Bool.and_true,Bool.and_eq_true,decide_eq_true_eq]
  exact ⟨⟨hk1,hk2⟩,hn,ht⟩
 exact u_7 this
abbrev lU (k t:Int) (n p d:List UInt8) (m:Int):List C:=[.d (.int .i64 k),.d (.int .i64 t),.d (.str n),.d (.str p),.d (.str d),.d (.int .i64 m)]
abbrev aF8 (k:Int) (ns:List Int) (ts:List (List UInt8)):List C:=[.d (.int .i64 k),.d (.slc 1 (bB ns)),.d (.slc 1 (aN ts))]
abbrev aIS (k:Int) (ns:List Int) (ts:List (List UInt8)):List C:=[.d (.int .i64 k),.own 0 1 (bB ns),.own 0 1 (aN ts)]
theorem aDz (k:Int) (ns:List Int) (ts:List (List UInt8)):
  aE PP GG 17 [.agg (aF8 k ns ts)] (.d (.bool (decide (0<=k/\k<=13/\ns.length=2/\ts.length=3)))) [none]:=by
 refine cv Tryz.func17 [.d (.bool (decide (0<=k/\k<=13/\ns.length=2/\ts.length=3)))] ?_
 refine u_1 ?_
 refine u_9 (Z1 vO) 2 (decide (0<=k/\k<=13/\ns.length=2/\ts.length=3)) ?_
 exact u_3
theorem aNY (k t m:Int) (n p d:List UInt8):aE PP GG 18 [.agg (aF8 k [t,m] [n,p,d])] (.agg (lU k t n p d m)) [none]:=by
 refine cv Tryz.func18 [.agg (lU k t n p d m)] ?_
 refine u_1 ?_
 refine aNB (Y2 @bB.eq_1 @aN.eq_1) ?_
 exact u_3
def qP (k:Int) (ns:List Int) (ts:List (List UInt8)):Bool:=jE k ns ts && decide (0<=k/\k<=13/\ns.length=2/\ts.length=3)
theorem aIQ {k:Int} {ns:List Int} {ts:List (List UInt8)} (h:qP k ns ts=true):∃ t m n p d,ns=[t,m]/\ts=[n,p,d]:=by
 simp only [qP,Bool.and_eq_true,decide_eq_true_eq] at h
 obtain ⟨_,_,_,h1,h2⟩:=h
 match ns,h1 with
 |[t,m],_=>
  match ts,h2 with
  |[n,p,d],_=>exact ⟨t,m,n,p,d,rfl,rfl⟩
theorem aDH (k:Int) (ns:List Int) (ts:List (List UInt8)) (h1:ns.length<=281474976710656) (h2:ts.length<=281474976710656):
  (qP k ns ts=false->aE PP GG 8 [.agg (aF8 k ns ts)] (.tup [.agg (lU 0 0 [] [] [] 0),.d (.bool false)]) [none]) ∧
  ∀ t m n p d,ns=[t,m]->ts=[n,p,d]->qP k ns ts=true->aE PP GG 8 [.agg (aF8 k ns ts)] (.tup [.agg (lU k t n p d m),.d (.bool true)]) [none]:=by
 have c1:=aB9 k ns ts h1 h2
 have c2:=aDz k ns ts
 have hr:=qP.eq_1 k ns ts
 generalize jE k ns ts=b1 at c1 hr
 generalize decide (0<=k/\k<=13/\ns.length=2/\ts.length=3)=b2 at c2 hr
 generalize hb:qP k ns ts=b at hr
 refine ⟨fun h=>?_,fun t m n p d e1 e2 h=>?_⟩
 ·refine cv Tryz.func8 [.agg (lU 0 0 [] [] [] 0),.d (.bool false)] ?_
  refine u_1 ?_
  refine aPN (Z2 c1 c2) 11 (!b) ?_
  refine aR rfl (fun h=>aK ?_) (fun h=>aU ?_)
  ·refine u_5 ?_
   exact u_3
  ·simp_all
 ·refine cv Tryz.func8 [.agg (lU k t n p d m),.d (.bool true)] ?_
  refine u_1 ?_
  refine aPN (Z2 c1 c2) 11 (!b) ?_
  refine aR rfl (fun h=>aK ?_) (fun h=>aU ?_)
  ·simp_all
  have c3:=aNY k t m n p d
  subst e1 e2
  refine u_8 (Z1 c3) ?_
  exact u_3
theorem aCY (k:Int) (ns:List Int) (ts:List (List UInt8)) (h1:ns.length<=281474976710656) (h2:ts.length<=281474976710656):
  (qP k ns ts=false->aE PP GG 114 [.agg (aF8 k ns ts)] (.tup [.agg (lU 0 0 [] [] [] 0),.d (.bool false)]) [none]) ∧
  ∀ t m n p d,ns=[t,m]->ts=[n,p,d]->qP k ns ts=true->aE PP GG 114 [.agg (aF8 k ns ts)] (.tup [.agg (lU k t n p d m),.d (.bool true)]) [none]:=by
 have c1:=oC k ns ts h1 h2
 have hr:=qP.eq_1 k ns ts
 generalize jE k ns ts=b1 at c1 hr
 generalize hb:qP k ns ts=b at hr
 refine ⟨fun h=>?_,fun t m n p d e1 e2 h=>?_⟩
 ·refine cv Tryz.func114 [.agg (lU 0 0 [] [] [] 0),.d (.bool false)] ?_
  refine u_1 ?_
  refine aK (aK (?_))
  refine nF 24 (!b) (fun K hK=>?_) ?_
  ·simp
   repeat' (first|exact hK _ _ (by clear hK;first|omega|(exact decide_eq_false (by omega))|(exact decide_eq_true (by omega))|(exact (decide_eq_true (by omega)).symm)|(exact (decide_eq_false (by omega)).symm)|(exact decide_eq_decide.2 (by omega))|(simp only [<-decide_not];exact decide_eq_decide.2 (by omega))|(simp [*];done)|(simp [*];omega)|(simp_all;done)|(simp_all;omega)|(rw [Bool.eq_iff_iff];simp at *;omega))|(with_reducible refine aI (bA _ _ _) ?_;simp)|(with_reducible refine aI (c1) ?_;simp)|(with_reducible refine aM (fun _=>?_) (fun _=>?_)<;>simp)|with_reducible refine And.intro ?_ ?_|with_reducible exact aS rfl|with_reducible assumption|omega)
   exact hK _ _ (by clear hK;cases b1<;>simp_all<;>omega)
  refine aR rfl (fun h=>aK ?_) (fun h=>aU ?_)
  ·refine u_5 ?_
   exact u_3
  ·simp_all
 ·refine cv Tryz.func114 [.agg (lU k t n p d m),.d (.bool true)] ?_
  refine u_1 ?_
  refine aTx (Z2 bA c1) 24 (!b) ?_
  refine aR rfl (fun h=>aK ?_) (fun h=>aU ?_)
  ·simp_all
  subst e1 e2
  refine aNB (Y2 @bB.eq_1 @aN.eq_1) ?_
  exact u_3
def aBF (n:Nat):List UInt8:=if h:n=0 then [] else aBF (n / 10)++[UInt8.ofNat (48+n % 10)]
termination_by n
decreasing_by omega
theorem aNC (n:Nat):IntKind.u8.wrap (IntKind.i64.wrap (48+((n % 10:Nat):Int)))=((UInt8.ofNat (48+n % 10)).toNat:Int):=by
 rw [aA (by omega) (by omega),IntKind.wrap_u8,UInt8.toNat_ofNat']
 have:(48+n % 10) % 2 ^ 8=48+n % 10:=by omega
 rw [this];omega
theorem aBL (v:UInt8):[[D.int .u8 v.toNat]]=aB [v]:=rfl
theorem aIR (k t m:Int) (n p d:List UInt8):aE PP GG 14 [.agg (lU k t n p d m)] (.agg (aIS k [t,m] [n,p,d])) [none]:=by
 refine cv Tryz.func14 [.agg (aIS k [t,m] [n,p,d])] ?_
 refine u_1 ?_
 refine mL (Y3 @rD.eq_1 @bB.eq_1 @aN.eq_1) ?_
 exact u_7 (Y2 @bB.eq_1 @aN.eq_1)
def aF1 (k t m:Int) (n p d:List UInt8):Bool:=(decide (0<=k) && decide (k<=13)) && jE k [t,m] [n,p,d]
def rrK (b:Bool) (k:Int):Int:=if b then k else 0
def rrN (b:Bool) (t m:Int):List Int:=if b then [t,m] else []
def rrT (b:Bool) (n p d:List UInt8):List (List UInt8):=if b then [n,p,d] else []
theorem aDG (k t m:Int) (n p d:List UInt8) (b:Bool) (hb:aF1 k t m n p d=b):aE PP GG 7 [.agg (lU k t n p d m)] (.tup [.agg (aIS (rrK b k) (rrN b t m) (rrT b n p d)),.d (.bool b)]) [none]:=by
 refine cv Tryz.func7 [.agg (aIS (rrK b k) (rrN b t m) (rrT b n p d)),.d (.bool b)] ?_
 have c1:=aB9 k [t,m] [n,p,d] (by simp) (by simp)
 unfold aF1 at hb
 generalize jE k [t,m] [n,p,d]=b1 at c1 hb
 refine u_1 ?_
 refine aCf (Z1 (aIR k t m n p d)) ?_
 refine u_9 (Z2 vO c1) 13 (b) ?_
 refine aR rfl (fun h=>aK ?_) (fun h=>aU ?_)
 ·subst h
  refine u_5 ?_
  exact u_7 (Y3 @rrK.eq_1 @rrN.eq_1 @rrT.eq_1)
 subst h
 refine u_1 ?_
 exact u_7 (Y5 @rrK.eq_1 @rrN.eq_1 @rrT.eq_1 @bB.eq_1 @aN.eq_1)
theorem pS (k t m:Int) (n p d:List UInt8) (b:Bool) (hb:aF1 k t m n p d=b):aE PP GG 6 [.agg (lU k t n p d m)] (.tup [.agg (aIS (rrK b k) (rrN b t m) (rrT b n p d)),.d (.bool b)]) [none]:=by
 refine cv Tryz.func6 [.agg (aIS (rrK b k) (rrN b t m) (rrT b n p d)),.d (.bool b)] ?_
 have c1:=oC k [t,m] [n,p,d] (by simp) (by simp)
 unfold aF1 at hb
 generalize jE k [t,m] [n,p,d]=b1 at c1 hb
 simp only [bB,aN,List.map] at c1
 refine u_1 ?_
 refine mL @rD.eq_1 ?_
 refine aK (aK (?_))
 generalize he:(decide (0<=k) && decide (k<=13))=e at hb
 have cw:=bA k 0 13
 rw [he] at cw
 refine aRK (Z2 cw c1) 28 (!b) ?_
 refine aR rfl (fun h=>aK ?_) (fun h=>aU ?_)
 ·simp at h
  subst h
  refine u_5 ?_
  exact u_7 (Y5 @rrK.eq_1 @rrN.eq_1 @rrT.eq_1 @bB.eq_1 @aN.eq_1)
 simp at h
 subst h
 refine u_1 ?_
 exact u_7 (Y5 @rrK.eq_1 @rrN.eq_1 @rrT.eq_1 @bB.eq_1 @aN.eq_1)
theorem aDQ:∀ n,0<n->aBF n=Lib.decDigits n:=by
 intro n
 induction n using Nat.strongRecOn with
 |_ n ih=>
  intro h
  rw [aBF,dif_neg (by omega),Lib.decDigits]
  by_cases hn:n<10
  ·rw [dif_pos hn]
   have e:n / 10=0:=by omega
   rw [e,aBF,dif_pos rfl,Nat.mod_eq_of_lt hn];rfl
  ·rw [dif_neg hn,ih (n / 10) (by omega) (by omega)]
theorem aNc {n:Nat} (h:n<=9223372036854775808):(aBF n).length<=21:=by
 by_cases h0:n=0
 ·subst h0;rw [aBF];simp
 ·rw [aDQ n (by omega)]
  by_cases h1:n<=9223372036854775807
  ·have:=Lib.itoa_length_le n (by omega) (by omega)
   rw [Lib.itoa_nonneg] at this
   exact this
  ·have:=Lib.itoa_length_le (-(n:Int)) (by omega) (by omega)
   rw [Lib.itoa_neg n (by omega)] at this
   simp at this;omega
theorem mG (x:Int) (hx:cH x):aE PP GG 65 [.d (.int .i64 x)] (.d (.str (Lib.itoa x))) [none]:=by
 refine cv Tryz.func65 [.d (.str (Lib.itoa x))] ?_
 unfold cH at hx
 refine u_1 ?_
 refine u_4 ?_
 refine aR rfl (fun h=>aK ?_) (fun h=>aU ?_)
 ·simp at h
  subst h
  refine u_5 ?_
  have:Lib.itoa 0=[48]:=by rw [show (0:Int)=((0:Nat):Int) from rfl,Lib.itoa_nonneg,Lib.decDigits];rfl
  exact u_7 this
 simp at h
 obtain ⟨ng,hng⟩:∃ ng,ng=decide (x<0):=⟨_,rfl⟩
 refine u_1 ?_
 refine aK (?_)
 apply nD
 ·intro K hK
  simp [<-hng]
  repeat' (first|with_reducible exact hK|(with_reducible refine aM (fun _=>?_) (fun _=>?_)<;>simp [<-hng])|with_reducible refine And.intro ?_ ?_|with_reducible exact aS rfl|with_reducible assumption|omega)
 refine aK (?_)
 refine bE (bQ (fun n st=>∃ (m:Nat) (out:List UInt8),n=m/\aBF m++out=aBF x.natAbs/\m<=x.natAbs ∧
  st=⟨[],[(0,.d (.int .i64 (if ng then -(m:Int) else m))),(3,.d (.str out)),(4,.d (.bool ng))],[],0⟩) _ ⟨x.natAbs,[],rfl,by simp,by omega,by
   simp [gc,bW,cZ,gcV,gcO,dZ,bF,cB,<-hng];cases ng<;>simp at hng ⊢<;>omega⟩ ?_)
 rintro m st ⟨m',out,rfl,he,hm,rfl⟩
 have hl:out.length<=21:=by
  have h1:=aNc (n:=x.natAbs) (by omega)
  rw [<-he] at h1
  simp at h1
  omega
 refine u_4 ?_
 refine aR rfl (fun h2=>aU ?_) (fun h2=>dN ?_)
 ·have hm0:m≠0:=by rintro rfl;cases ng<;>simp at h2
  have hd:=aNC m
  obtain ⟨r,hr⟩:∃ r:Nat,r=m % 10:=⟨_,rfl⟩
  obtain ⟨q,hqq⟩:∃ q:Nat,q=m / 10:=⟨_,rfl⟩
  rw [<-hr] at hd
  obtain ⟨v,hv⟩:∃ v,v=UInt8.ofNat (48+r):=⟨_,rfl⟩
  rw [<-hv] at hd
  have fin:aBF q++(v::out)=aBF x.natAbs:=by
   rw [<-he,aBF.eq_1 m,dif_neg hm0,<-hqq,<-hr,<-hv]
   simp
  cases ng with
  |false=>
   have ht:((m:Int).tmod 10)=(r:Int):=by rw [hr];rfl
   have hq:IntKind.i64.wrap ((m:Int).tdiv 10)=(q:Int):=by
    have:(m:Int).tdiv 10=((m / 10:Nat):Int):=rfl
    rw [this,<-hqq];exact aA (by omega) (by omega)
   simp at hq
   refine bE (aK ?_)
   refine jJ ht ?_
   refine u_4 ?_
   refine aR rfl (fun h3=>?_) (fun h3=>aU ?_)
   ·simp at h3;omega
   refine mL (Y5 hd @rD.eq_1 @aBL @fA @jN.eq_1) ?_
   refine jJ hq ?_
   exact ⟨q,by omega,q,v::out,rfl,fin,by omega,by simp [gc,bW,cZ,gcV,gcO,dZ,bF,cB]⟩
  |true=>
   have ht:((-(m:Int)).tmod 10)=-(r:Int):=by rw [Int.neg_tmod,hr];rfl
   have hn:IntKind.i64.wrap (0 - -(r:Int))=(r:Int):=by rw [aA (by omega) (by omega)];omega
   have hq:IntKind.i64.wrap ((-(m:Int)).tdiv 10)=-(q:Int):=by
    have:(-(m:Int)).tdiv 10=-((m / 10:Nat):Int):=by rw [Int.neg_tdiv];rfl
    rw [this,<-hqq];exact aA (by omega) (by omega)
   simp at hn hq
   refine bE (aK ?_)
   refine jJ ht ?_
   refine u_4 ?_
   refine aR rfl (fun h3=>?_) (fun h3=>aU ?_)
   ·refine jJ hn ?_
    refine mL (Y5 hd @rD.eq_1 @aBL @fA @jN.eq_1) ?_
    refine jJ hq ?_
    exact ⟨q,by omega,q,v::out,rfl,fin,by omega,by simp [gc,bW,cZ,gcV,gcO,dZ,bF,cB]⟩
   have hn2:-(r:Int)=(r:Int):=by simp at h3;omega
   refine mL (Y6 hn2 hd @rD.eq_1 @aBL @fA @jN.eq_1) ?_
   refine jJ hq ?_
   exact ⟨q,by omega,q,v::out,rfl,fin,by omega,by simp [gc,bW,cZ,gcV,gcO,dZ,bF,cB]⟩
 ·have hm0:m=0:=by cases ng<;>simp at h2<;>omega
  subst hm0
  rw [if_pos rfl]
  have hz:aBF 0=[]:=by rw [aBF];simp
  rw [hz,List.nil_append] at he
  refine u_4 ?_
  refine aR rfl (fun h3=>aK ?_) (fun h3=>aU ?_)
  ·subst h3
   refine jJ @jN.eq_1 ?_
   have:Lib.itoa x=45::out:=by
    simp at hng
    unfold Lib.itoa
    rw [if_pos (by omega),he,aDQ _ (by omega)]
   exact u_7 this
  subst h3
  refine u_1 ?_
  have:Lib.itoa x=out:=by
   simp at hng
   unfold Lib.itoa
   rw [if_neg (by omega),he,aDQ _ (by omega)]
   congr 1
   omega
  exact u_7 this
abbrev aTM (s a w:Int) (t p:List UInt8) (c m:Int):List C:=[.d (.int .i64 s),.d (.int .i64 a),.d (.int .i64 w),.d (.str t),.d (.str p),.d (.int .i64 c),.d (.int .i64 m)]
def dA (l:List UInt8):Nat:=l.foldl (fun p b=>(131*p+b.toNat+1) % 2147483647) 7
def dB (l:List UInt8):Nat:=l.foldl (fun p b=>(137*p+b.toNat+3) % 2147483629) 11
def qK (l:List UInt8):Int:=2147483648*(dA l:Int)+(dB l:Int)
theorem aPc (l:List UInt8):dA l<2147483647:=by
 rcases List.eq_nil_or_concat l with rfl|⟨r,x,rfl⟩
 ·simp [dA]
 ·simp only [dA,List.concat_eq_append,List.foldl_append,List.foldl_cons,List.foldl_nil];omega
theorem aPb (l:List UInt8):dB l<2147483629:=by
 rcases List.eq_nil_or_concat l with rfl|⟨r,x,rfl⟩
 ·simp [dB]
 ·simp only [dB,List.concat_eq_append,List.foldl_append,List.foldl_cons,List.foldl_nil];omega
theorem aQM {l:List UInt8} {i:Nat} {x:UInt8} (h:l[i]?=some x):dA (l.take (i+1))=(131*dA (l.take i)+x.toNat+1) % 2147483647:=by
 rw [List.take_add_one,h];simp [dA,List.foldl_append]
theorem aQL {l:List UInt8} {i:Nat} {x:UInt8} (h:l[i]?=some x):dB (l.take (i+1))=(137*dB (l.take i)+x.toNat+3) % 2147483629:=by
 rw [List.take_add_one,h];simp [dB,List.foldl_append]
theorem aTC (p:Nat) (x:UInt8) (hp:p<2147483647):(IntKind.i64.wrap (IntKind.i64.wrap (IntKind.i64.wrap (131*(p:Int))+IntKind.i64.wrap (x.toNat:Int))+1)).tmod 2147483647=(((131*p+x.toNat+1) % 2147483647:Nat):Int):=by
 have hx:=x.toNat_lt
 rw [aA (n:=131*(p:Int)) (by omega) (by omega),aA (n:=(x.toNat:Int)) (by omega) (by omega),aA (n:=131*(p:Int)+x.toNat) (by omega) (by omega),aA (by omega) (by omega)]
 rw [Int.tmod_eq_emod_of_nonneg (by omega)]
 omega
theorem aTB (p:Nat) (x:UInt8) (hp:p<2147483629):(IntKind.i64.wrap (IntKind.i64.wrap (IntKind.i64.wrap (137*(p:Int))+IntKind.i64.wrap (x.toNat:Int))+3)).tmod 2147483629=(((137*p+x.toNat+3) % 2147483629:Nat):Int):=by
 have hx:=x.toNat_lt
 rw [aA (n:=137*(p:Int)) (by omega) (by omega),aA (n:=(x.toNat:Int)) (by omega) (by omega),aA (n:=137*(p:Int)+x.toNat) (by omega) (by omega),aA (by omega) (by omega)]
 rw [Int.tmod_eq_emod_of_nonneg (by omega)]
 omega
theorem aSC (l:List UInt8):IntKind.i64.wrap (IntKind.i64.wrap (2147483648*(dA l:Int))+(dB l:Int))=qK l:=by
 have:=aPc l
 have:=aPb l
 rw [aA (n:=2147483648*(dA l:Int)) (by omega) (by omega),aA (by omega) (by omega)];rfl
theorem sP (a:List UInt8) (ha:a.length<=140737488355328):aE PP GG 74 [.d (.slc 1 (aB a))] (.d (.int .i64 (qK a))) [none]:=by
 refine cv Tryz.func74 [.d (.int .i64 (qK a))] ?_
 refine u_1 ?_
 refine u_1 ?_
 refine u_1 ?_
 refine u_4 ?_
 refine bE (bQ (fun n st=>∃ (i:Nat),n=a.length-i/\i<=a.length ∧
  st=⟨[],[(0,.d (.slc 1 (aB a))),(3,.d (.int .i64 (dA (a.take i)))),(4,.d (.int .i64 (dB (a.take i)))),(5,.d (.int .i64 i))],[],0⟩) _ ⟨0,rfl,by omega,rfl⟩ ?_)
 rintro n st ⟨i,rfl,hi,rfl⟩
 refine u_4 ?_
 refine aR rfl (fun h=>aU ?_) (fun h=>dN ?_)
 ·simp at h
  have hx:=List.getElem?_eq_getElem h
  generalize a[i]=x at hx
  have sA:=aTC _ x (aPc (a.take i))
  have sB:=aTB _ x (aPb (a.take i))
  rw [<-aQM hx] at sA
  rw [<-aQL hx] at sB
  refine aK (bE (aK ?_))
  refine jJ (Y2 hx sA) ?_
  refine jJ (Y2 hx sB) ?_
  refine u_5 ?_
  exact ⟨a.length-(i+1),by omega,i+1,rfl,h,by
   simp [gc,bW,cZ,gcV,gcO,dZ,bF,cB]
   rw [aA (by omega) (by omega)]⟩
 ·simp at h
  rw [if_pos rfl]
  refine mL (Y2 (List.take_of_length_le h) @aSC) ?_
  exact u_3
def aFP (x s a w:Int) (t p:List UInt8) (c:Int):List UInt8:=Lib.itoa x++[10]++Lib.itoa s++[10]++Lib.itoa a++[10]++Lib.itoa w++[10]++t++[10]++p++[10]++Lib.itoa c
theorem vA {x:Int} (h:cH x):(Lib.itoa x).length<=21:=Lib.itoa_length_le x h.1 h.2
theorem aKa (x s a w:Int) (t p:List UInt8) (c m:Int) (hx:cH x) (hs:cH s) (ha:cH a) (hw:cH w) (hc:cH c) (h1:t.length<=1048576) (h2:p.length<=1048576):
  aE PP GG 111 [.d (.int .i64 x),.agg (aTM s a w t p c m)] (.d (.int .i64 (qK (aFP x s a w t p c)))) [none,none]:=by
 refine cv Tryz.func111 [.d (.int .i64 (qK (aFP x s a w t p c)))] ?_
 have l0:=vA hx
 have l1:=vA hs
 have l2:=vA ha
 have l3:=vA hw
 have l4:=vA hc
 refine u_1 ?_
 refine aK (?_)
 refine aL7 @jN.eq_1 (Z5 (mG x hx) (mG s hs) (mG a ha) (mG w hw) (mG c hc)) ?_
 have hl:(aFP x s a w t p c).length<=140737488355328:=by unfold aFP;simp;omega
 have e:Lib.itoa x++10::(Lib.itoa s++10::(Lib.itoa a++10::(Lib.itoa w++10::(t++10::(p++10::Lib.itoa c)))))=aFP x s a w t p c:=by simp [aFP]
 refine u_6 e (Z1 (sP (aFP x s a w t p c) hl)) ?_
 exact u_3
def cX {α:Type} (f:α->Nat):List α->Nat
 |[]=>0
 |x::r=>f x+cX f r
theorem aAk {α:Type} (f:α->Nat) (a b:List α):cX f (a++b)=cX f a+cX f b:=by
 induction a with
 |nil=>simp [cX]
 |cons x a ih=>simp [cX,ih];omega
theorem aMd {α:Type} {f:α->Nat} {a:List α} {x:α} (h:x∈a):f x<=cX f a:=by
 induction a with
 |nil=>simp at h
 |cons y a ih=>
  rcases List.mem_cons.1 h with rfl|h
  ·simp [cX]
  ·have:=ih h;simp [cX];omega
theorem lJ {α:Type} {f:α->Nat} {a:List α} {i:Nat} {x:α} (h:a[i]?=some x):f x<=cX f a:=aMd (List.mem_of_getElem? h)
theorem aJz {α:Type} {a:List α} {i:Nat} {x:α} (h:a[i]?=some x):a.drop i=x::a.drop (i+1):=by
 obtain ⟨h1,rfl⟩:=List.getElem?_eq_some_iff.1 h
 exact List.drop_eq_getElem_cons h1
structure cO where
 nA:Int
 fAt:Int
 aCu:Int
 qU:List UInt8
 fN:List UInt8
 uA:Int
 aAO:Int
 deriving DecidableEq
@[simp] abbrev cO.row (x:cO):List D:=[.int .i64 x.nA,.int .i64 x.fAt,.int .i64 x.aCu,.str x.qU,.str x.fN,.int .i64 x.uA,.int .i64 x.aAO]
@[simp] abbrev cO.c (x:cO):List C:=[.d (.int .i64 x.nA),.d (.int .i64 x.fAt),.d (.int .i64 x.aCu),.d (.str x.qU),.d (.str x.fN),.d (.int .i64 x.uA),.d (.int .i64 x.aAO)]
@[simp] abbrev cO.o (x:cO):List C:=[.d (.int .i64 x.nA),.d (.int .i64 x.fAt),.d (.int .i64 x.aCu),.d (.str x.qU),.d (.str x.fN),.d (.int .i64 x.uA),.d (.int .i64 x.aAO)]
def eK (l:List cO):List (List D):=l.map cO.row
@[simp] theorem aMr (l:List cO):(eK l).length=l.length:=by simp [eK]
@[simp] theorem aTf (l:List cO) (i:Nat):(eK l)[i]?=(l[i]?).map cO.row:=by simp [eK]
def cO.cost (x:cO):Nat:=x.qU.length+x.fN.length
def cO.ok (x:cO):Prop:=cH x.nA/\cH x.fAt/\cH x.aCu/\x.qU.length<=maxLen/\x.fN.length<=maxLen/\cH x.uA/\cH x.aAO
structure dO where
 iQ:Int
 qV:Int
 dM:List cO
 deriving DecidableEq
@[simp] abbrev dO.row (x:dO):List D:=[.int .i64 x.iQ,.int .i64 x.qV,.slc 7 (eK x.dM)]
@[simp] abbrev dO.c (x:dO):List C:=[.d (.int .i64 x.iQ),.d (.int .i64 x.qV),.d (.slc 7 (eK x.dM))]
@[simp] abbrev dO.o (x:dO):List C:=[.d (.int .i64 x.iQ),.d (.int .i64 x.qV),.own 0 7 (eK x.dM)]
def dO.cost (x:dO):Nat:=(x.dM.length+cX cO.cost x.dM)
def dO.ok (x:dO):Prop:=cH x.iQ/\cH x.qV/\x.dM.length<=maxLen/\(∀ y,y∈x.dM->y.ok)
structure vL where
 oX:Int
 gG:List UInt8
 aGH:Int
 deriving DecidableEq
@[simp] abbrev vL.row (x:vL):List D:=[.int .i64 x.oX,.slc 1 (aB x.gG),.int .i64 x.aGH]
@[simp] abbrev vL.c (x:vL):List C:=[.d (.int .i64 x.oX),.d (.slc 1 (aB x.gG)),.d (.int .i64 x.aGH)]
@[simp] abbrev vL.o (x:vL):List C:=[.d (.int .i64 x.oX),.own 0 1 (aB x.gG),.d (.int .i64 x.aGH)]
def vL.cost (x:vL):Nat:=x.gG.length
def vL.ok (x:vL):Prop:=cH x.oX/\x.gG.length<=maxLen/\cH x.aGH
structure dE where
 bU:Int
 bM:Int
 mI:List UInt8
 oM:vL
 deriving DecidableEq
@[simp] abbrev dE.row (x:dE):List D:=[.int .i64 x.bU,.int .i64 x.bM,.str x.mI,.int .i64 x.oM.oX,.slc 1 (aB x.oM.gG),.int .i64 x.oM.aGH]
@[simp] abbrev dE.c (x:dE):List C:=[.d (.int .i64 x.bU),.d (.int .i64 x.bM),.d (.str x.mI),.d (.int .i64 x.oM.oX),.d (.slc 1 (aB x.oM.gG)),.d (.int .i64 x.oM.aGH)]
@[simp] abbrev dE.o (x:dE):List C:=[.d (.int .i64 x.bU),.d (.int .i64 x.bM),.d (.str x.mI),.d (.int .i64 x.oM.oX),.own 0 1 (aB x.oM.gG),.d (.int .i64 x.oM.aGH)]
def gX (l:List dE):List (List D):=l.map dE.row
@[simp] theorem aS9 (l:List dE):(gX l).length=l.length:=by simp [gX]
@[simp] theorem aTa (l:List dE) (i:Nat):(gX l)[i]?=(l[i]?).map dE.row:=by simp [gX]
def dE.cost (x:dE):Nat:=x.mI.length+x.oM.cost
def dE.ok (x:dE):Prop:=cH x.bU/\cH x.bM/\x.mI.length<=maxLen/\x.oM.ok
structure dV where
 iP:Int
 bG:Int
 cP:List dE
 deriving DecidableEq
@[simp] abbrev dV.row (x:dV):List D:=[.int .i64 x.iP,.int .i64 x.bG,.slc 6 (gX x.cP)]
@[simp] abbrev dV.c (x:dV):List C:=[.d (.int .i64 x.iP),.d (.int .i64 x.bG),.d (.slc 6 (gX x.cP))]
@[simp] abbrev dV.o (x:dV):List C:=[.d (.int .i64 x.iP),.d (.int .i64 x.bG),.own 1 6 (gX x.cP)]
def dV.cost (x:dV):Nat:=(x.cP.length+cX dE.cost x.cP)
def dV.ok (x:dV):Prop:=cH x.iP/\cH x.bG/\x.cP.length<=maxLen/\(∀ y,y∈x.cP->y.ok)
structure rI where
 mI:Int
 dG:Int
 aG:List UInt8
 fN:List UInt8
 gG:List UInt8
 aQH:Int
 deriving DecidableEq
@[simp] abbrev rI.row (x:rI):List D:=[.int .i64 x.mI,.int .i64 x.dG,.str x.aG,.str x.fN,.str x.gG,.int .i64 x.aQH]
@[simp] abbrev rI.c (x:rI):List C:=[.d (.int .i64 x.mI),.d (.int .i64 x.dG),.d (.str x.aG),.d (.str x.fN),.d (.str x.gG),.d (.int .i64 x.aQH)]
@[simp] abbrev rI.o (x:rI):List C:=[.d (.int .i64 x.mI),.d (.int .i64 x.dG),.d (.str x.aG),.d (.str x.fN),.d (.str x.gG),.d (.int .i64 x.aQH)]
def wD (l:List rI):List (List D):=l.map rI.row
@[simp] theorem aTG (l:List rI):(wD l).length=l.length:=by simp [wD]
@[simp] theorem aN3 (l:List rI) (i:Nat):(wD l)[i]?=(l[i]?).map rI.row:=by simp [wD]
def rI.cost (x:rI):Nat:=x.aG.length+x.fN.length+x.gG.length
def rI.ok (x:rI):Prop:=cH x.mI/\cH x.dG/\x.aG.length<=maxLen/\x.fN.length<=maxLen/\x.gG.length<=maxLen/\cH x.aQH
def aI6 (b:UInt8):Bool:=decide (97<=b.toNat/\b.toNat<=122\/48<=b.toNat/\b.toNat<=57)
def aPX (b:UInt8):Bool:=decide ((97<=b.toNat/\b.toNat<=122\/48<=b.toNat/\b.toNat<=57)\/b.toNat=45)
def eG (s:List UInt8):Bool:=decide (1<=s.length/\s.length<=12) && s.all aI6
def aAm (s:List UInt8):Bool:=decide (1<=s.length/\s.length<=16) && s.all aPX
def aAL (b:UInt8):List (List UInt8)->List (List UInt8)
 |[]=>[]
 |p::ps=>(b::p)::ps
def pJ (c:List UInt8):List (List UInt8)->List (List UInt8)
 |[]=>[]
 |p::ps=>(c++p)::ps
def fK (c:UInt8):List UInt8->List (List UInt8)
 |[]=>[[]]
 |b::r=>if b=c then []::fK c r else aAL b (fK c r)
theorem sJ (c:UInt8) (s:List UInt8):∃ p ps,fK c s=p::ps:=by
 induction s with
 |nil=>exact ⟨_,_,rfl⟩
 |cons b r ih=>
  obtain ⟨p,ps,h⟩:=ih
  unfold fK
  split
  ·exact ⟨_,_,rfl⟩
  ·rw [h];exact ⟨_,_,rfl⟩
theorem aCc (c:UInt8) (s:List UInt8):pJ [] (fK c s)=fK c s:=by
 obtain ⟨p,ps,h⟩:=sJ c s
 rw [h];rfl
theorem aJn (c:UInt8) (cur r:List UInt8):pJ cur (fK c (c::r))=cur::pJ [] (fK c r):=by
 rw [aCc,fK,if_pos rfl];simp [pJ]
theorem aGz {c b:UInt8} (h:b≠c) (cur r:List UInt8):pJ cur (fK c (b::r))=pJ (cur++[b]) (fK c r):=by
 obtain ⟨p,ps,e⟩:=sJ c r
 rw [fK,if_neg h,e];simp [aAL,pJ]
theorem lL (c:UInt8) (s:List UInt8):(fK c s).length<=s.length+1:=by
 induction s with
 |nil=>simp [fK]
 |cons b r ih=>
  unfold fK
  split
  ·simp;exact ih
  ·obtain ⟨p,ps,e⟩:=sJ c r
   rw [e] at ih ⊢
   simp [aAL] at ih ⊢;omega
theorem sK {c:UInt8}:∀ (s:List UInt8) {p:List UInt8},p∈fK c s->p.length<=s.length:=by
 intro s
 induction s with
 |nil=>intro p h;simp [fK] at h;subst h;simp
 |cons b r ih=>
  intro p h
  unfold fK at h
  split at h
  ·rcases List.mem_cons.1 h with rfl|h
   ·simp
   ·have:=ih h;simp;omega
  ·obtain ⟨q,qs,e⟩:=sJ c r
   rw [e] at h ih
   simp only [aAL] at h
   rcases List.mem_cons.1 h with rfl|h
   ·have:=ih (List.mem_cons_self ..);simp;omega
   ·have:=ih (List.mem_cons_of_mem _ h);simp;omega
def aE9 (l:List (List UInt8)) (i:Nat):Bool:=match l[i]? with|some s=>aAm s || (s==[43]) || (s==[42] && decide (i+1=l.length))|none=>true
def lR (s:List UInt8):Bool:=decide (s.length<=120) && ((List.range (fK 47 s).length).all (aE9 (fK 47 s)) && decide ((fK 47 s).length<=8))
def aIC (b:UInt8):Bool:=decide (b.toNat=43\/b.toNat=42)
def fQ (s:List UInt8):Bool:=lR s && !s.any aIC
theorem aPn {α:Type} {p:α->Bool} {l:List α} {i:Nat} {x:α} (h:l[i]?=some x) (hx:p x=false):l.all p=false:=by
 rw [List.all_eq_false];exact ⟨x,List.mem_of_getElem? h,by simp [hx]⟩
theorem aQS {α:Type} {p:α->Bool} {l:List α} {i:Nat} {x:α} (h:l[i]?=some x) (hx:p x=true):l.any p=true:=by
 rw [List.any_eq_true];exact ⟨x,List.mem_of_getElem? h,hx⟩
theorem aAh {α:Type} {p:α->Prop} {l:List α} {i:Nat} {x:α} (ha:l[i]?=some x) (hn:∀ y,y∈l.take i->p y) (hx:p x):∀ y,y∈l.take (i+1)->p y:=by
 intro y hy
 rw [List.take_add_one,ha] at hy
 rcases List.mem_append.1 hy with hy|hy
 ·exact hn y hy
 ·simp at hy;subst hy;exact hx
theorem oG {s:List UInt8} {i:Nat} {x:UInt8} (h:s[i]?=some x):s[i]?.getD 0=x:=by rw [h];rfl
theorem jZ (s:List UInt8) (hs:s.length<=281474976710656):aE PP GG 51 [.d (.str s)] (.d (.bool (eG s))) [none]:=by
 refine cv Tryz.func51 [.d (.bool (eG s))] ?_
 refine u_1 ?_
 refine u_4 ?_
 refine bE (bQ (fun n st=>∃ i:Nat,n=s.length-i/\i<=s.length/\(∀ y,y∈s.take i->aI6 y=true)/\st=⟨[],[(0,.d (.str s)),(3,.d (.int .i64 i))],[],0⟩) _ ⟨0,rfl,by omega,fun y h=>by simp at h,rfl⟩ ?_)
 rintro n st ⟨i,rfl,hi,hn,rfl⟩
 refine u_4 ?_
 refine aR rfl (fun h=>aU ?_) (fun h=>dN ?_)
 ·simp at h
  have ha:=List.getElem?_eq_getElem h
  generalize s[i]=x at ha
  have hd:=oG ha
  refine aK (bE (aK ?_))
  refine jJ hd ?_
  obtain ⟨v,hv⟩:∃ v,x.toNat=v:=⟨_,rfl⟩
  have hnb:aI6 x=decide (97<=v/\v<=122\/48<=v/\v<=57):=by rw [<-hv];rfl
  rw [hv]
  refine u_2 29 (decide (¬(97<=v/\v<=122\/48<=v/\v<=57))) ?_
  refine aR rfl (fun h2=>aK ?_) (fun h2=>aU ?_)
  ·rw [h2]
   refine u_5 ?_
   have:eG s=false:=by
    unfold eG
    rw [aPn ha (by rw [hnb];exact decide_eq_false (of_decide_eq_true h2)),Bool.and_false]
   exact u_7 this
  rw [h2]
  refine u_5 ?_
  exact ⟨s.length-(i+1),by omega,i+1,rfl,h,aAh ha hn (by rw [hnb];exact decide_eq_true (Decidable.not_not.1 (of_decide_eq_false h2))),by simp [gc,bW,cZ,gcV,gcO,dZ,bF,cB];rw [aA (by omega) (by omega)]⟩
 ·simp at h
  rw [if_pos rfl]
  rw [List.take_of_length_le h] at hn
  refine u_8 (Z1 (bA s.length 1 12)) ?_
  have:(decide (1<=(s.length:Int)) && decide ((s.length:Int)<=12))=eG s:=by
   unfold eG
   rw [List.all_eq_true.2 hn,Bool.and_true,Bool.eq_iff_iff]
   simp
   omega
  exact u_7 this
theorem aEy (s:List UInt8) (hs:s.length<=281474976710656):aE PP GG 50 [.d (.str s)] (.d (.bool (aAm s))) [none]:=by
 refine cv Tryz.func50 [.d (.bool (aAm s))] ?_
 have cl:=bA s.length 1 16
 obtain ⟨p,hp⟩:∃ p,(decide (1<=(s.length:Int)) && decide ((s.length:Int)<=16))=p:=⟨_,rfl⟩
 have hp2:aAm s=(p && s.all aPX):=by
  unfold aAm
  rw [<-hp]
  congr 1
  rw [Bool.eq_iff_iff];simp;omega
 rw [hp] at cl
 refine u_1 ?_
 refine aCf (Z1 cl) ?_
 refine aR rfl (fun h=>aK ?_) (fun h=>aU ?_)
 ·simp at h
  subst h
  refine u_5 ?_
  exact u_7 hp2
 simp at h
 subst h
 refine u_4 ?_
 refine bE (bQ (fun n st=>∃ i:Nat,n=s.length-i/\i<=s.length/\(∀ y,y∈s.take i->aPX y=true)/\st=⟨[],[(0,.d (.str s)),(3,.d (.int .i64 i))],[],0⟩) _ ⟨0,rfl,by omega,fun y h=>by simp at h,rfl⟩ ?_)
 rintro n st ⟨i,rfl,hi,hn,rfl⟩
 refine u_4 ?_
 refine aR rfl (fun h=>aU ?_) (fun h=>dN ?_)
 ·simp at h
  have ha:=List.getElem?_eq_getElem h
  generalize s[i]=x at ha
  have hd:=oG ha
  refine aK (bE (aK ?_))
  refine jJ hd ?_
  obtain ⟨v,hv⟩:∃ v,x.toNat=v:=⟨_,rfl⟩
  have hnb:aPX x=decide ((97<=v/\v<=122\/48<=v/\v<=57)\/v=45):=by rw [<-hv];rfl
  rw [hv]
  refine u_2 37 (decide (¬((97<=v/\v<=122\/48<=v/\v<=57)\/v=45))) ?_
  refine aR rfl (fun h2=>aK ?_) (fun h2=>aU ?_)
  ·rw [h2]
   refine u_5 ?_
   have:aAm s=false:=by
    rw [hp2,aPn ha (by rw [hnb];exact decide_eq_false (of_decide_eq_true h2)),Bool.and_false]
   exact u_7 this
  rw [h2]
  refine u_5 ?_
  exact ⟨s.length-(i+1),by omega,i+1,rfl,h,aAh ha hn (by rw [hnb];exact decide_eq_true (Decidable.not_not.1 (of_decide_eq_false h2))),by simp [gc,bW,cZ,gcV,gcO,dZ,bF,cB];rw [aA (by omega) (by omega)]⟩
 ·simp at h
  rw [if_pos rfl]
  rw [List.take_of_length_le h] at hn
  refine u_1 ?_
  have:aAm s=true:=by rw [hp2,List.all_eq_true.2 hn];rfl
  exact u_7 this
theorem aCR {s:List UInt8} {a i:Nat} {x:UInt8} (h:s[i]?=some x) (ha:a<=i):(s.take (i+1)).drop a=(s.take i).drop a++[x]:=by
 have hl:=(List.getElem?_eq_some_iff.1 h).1
 rw [List.take_add_one,h,List.drop_append_of_le_length (by rw [List.length_take];omega)];rfl
theorem iI (s:List UInt8) (c:UInt8) (hs:s.length<=4194304):aE PP GG 49 [.d (.str s),.d (.int .u8 c.toNat)] (.own 0 1 (aN (fK c s))) [none,none]:=by
 refine cv Tryz.func49 [.own 0 1 (aN (fK c s))] ?_
 refine u_1 ?_
 refine mL @rD.eq_1 ?_
 refine u_1 ?_
 refine u_4 ?_
 refine bE (bQ (fun n st=>∃ (i a:Nat) (o:List (List UInt8)),n=s.length+1-i/\o.length<=i/\a<=i/\(i<=s.length/\fK c s=o++pJ ((s.take i).drop a) (fK c (s.drop i))\/i=s.length+1/\fK c s=o) ∧
  st=⟨[],[(0,.d (.str s)),(1,.d (.int .u8 c.toNat)),(5,.sl 0),(6,.d (.int .i64 a)),(7,.d (.int .i64 i))],[(0,.arr 0 0 1 (aN o))],1⟩) _ ⟨0,0,[],rfl,by simp,by omega,.inl ⟨by omega,by simp [aCc]⟩,rfl⟩ ?_)
 rintro n st ⟨i,a,o,rfl,hol,hai,hinv,rfl⟩
 refine u_4 ?_
 refine aR rfl (fun h=>aU ?_) (fun h=>dN ?_)
 ·rw [h]
  simp at h
  obtain ⟨_,hcut⟩:=hinv.resolve_right (by omega)
  clear hinv
  have hw:IntKind.i64.wrap ((i:Int)+1)=((i+1:Nat):Int):=by rw [aA (by omega) (by omega)];omega
  have t1:((a:Int)).toNat=a:=by omega
  have t2:((i:Int)).toNat=i:=by omega
  refine aK (bE (aK ?_))
  by_cases hend:i=s.length
  ·subst hend
   refine nF 25 (true) (fun K hK=>?_) ?_
   ·simp
    repeat' (first|exact hK _ _ (by clear hK;first|omega|(exact decide_eq_false (by omega))|(exact decide_eq_true (by omega))|(exact (decide_eq_true (by omega)).symm)|(exact (decide_eq_false (by omega)).symm)|(exact decide_eq_decide.2 (by omega))|(simp only [<-decide_not];exact decide_eq_decide.2 (by omega))|(simp [*];done)|(simp [*];omega)|(simp_all;done)|(simp_all;omega)|(rw [Bool.eq_iff_iff];simp at *;omega))|(with_reducible refine aM (fun _=>?_) (fun _=>?_)<;>simp)|with_reducible refine And.intro ?_ ?_|with_reducible exact aS rfl|with_reducible assumption|omega)
   refine aR rfl (fun h2=>aK ?_) (fun h2=>?_)
   rotate_left
   ·cases h2
   refine jJ (Y3 t1 t2 @aJ.eq_1) ?_
   refine jJ hw ?_
   refine jJ hw ?_
   refine ⟨s.length+1-(s.length+1),by omega,s.length+1,s.length+1,o++[(s.take s.length).drop a],rfl,by simp;omega,by omega,.inr ⟨by omega,?_⟩,by simp [gc,bW,cZ,gcV,gcO,dZ,fJ,bF,cB,cR,eC,aN]⟩
   rw [hcut,List.drop_length]
   simp [fK,pJ]
  ·have ha:=List.getElem?_eq_getElem (show i<s.length by omega)
   generalize s[i]'_=x at ha
   have hd:=oG ha
   have hdr:=aJz ha
   by_cases hx:x=c
   ·subst hx
    refine aPM hd 25 (true) ?_
    refine aR rfl (fun h2=>aK ?_) (fun h2=>?_)
    rotate_left
    ·cases h2
    refine jJ (Y3 t1 t2 @aJ.eq_1) ?_
    refine jJ hw ?_
    refine jJ hw ?_
    refine ⟨s.length+1-(i+1),by omega,i+1,i+1,o++[(s.take i).drop a],rfl,by simp;omega,by omega,.inl ⟨by omega,?_⟩,by simp [gc,bW,cZ,gcV,gcO,dZ,fJ,bF,cB,cR,eC,aN]⟩
    have hnil:(s.take (i+1)).drop (i+1)=[]:=List.drop_eq_nil_of_le (by rw [List.length_take];omega)
    rw [hcut,hdr,aJn,hnil]
    simp
   ·have hx2:x.toNat≠c.toNat:=fun e=>hx (UInt8.toNat_inj.1 e)
    refine aPM hd 25 (false) ?_
    refine aR rfl (fun h2=>?_) (fun h2=>aU ?_)
    ·cases h2
    refine jJ hw ?_
    refine ⟨s.length+1-(i+1),by omega,i+1,a,o,rfl,by omega,by omega,.inl ⟨by omega,?_⟩,by simp [gc,bW,cZ,gcV,gcO,dZ,fJ,bF,cB,cR,eC,aN]⟩
    rw [hcut,hdr,aGz hx,aCR ha hai]
 ·simp at h
  obtain ⟨_,hcut⟩:=hinv.resolve_left (by omega)
  rw [if_pos rfl]
  subst hcut
  refine u_1 ?_
  exact u_3
theorem uO {p:Nat->Bool} {n i:Nat} (h:i<n) (hp:p i=false):(List.range n).all p=false:=by
 rw [List.all_eq_false];exact ⟨i,by simpa using h,by simp [hp]⟩
theorem oJ (s:List UInt8) (hs:s.length<=4194304):aE PP GG 37 [.d (.str s)] (.d (.bool (lR s))) [none]:=by
 refine cv Tryz.func37 [.d (.bool (lR s))] ?_
 refine u_1 ?_
 refine u_4 ?_
 refine aR rfl (fun h=>aK ?_) (fun h=>aU ?_)
 ·simp at h
  refine u_5 ?_
  have:lR s=false:=by unfold lR;rw [decide_eq_false (by omega)];rfl
  exact u_7 this
 simp at h
 have cp:aE PP GG 49 [.d (.str s),.d (.int .u8 47)] (.own 0 1 (aN (fK 47 s))) [none,none]:=iI s 47 hs
 have hg:lR s=((List.range (fK 47 s).length).all (aE9 (fK 47 s)) && decide ((fK 47 s).length<=8)):=by unfold lR;rw [decide_eq_true (by omega)];rfl
 have hml:∀ x,x∈fK 47 s->x.length<=4194304:=fun x hx=>by have:=sK s hx;omega
 have hll:=lL 47 s
 generalize fK 47 s=l at cp hg hml hll
 refine u_8 (Z1 cp) ?_
 refine u_4 ?_
 refine bE (bQ (fun n st=>∃ i:Nat,n=l.length-i/\i<=l.length/\(∀ j,j<i->aE9 l j=true)/\st=⟨[],[(3,.sl 0),(4,.d (.int .i64 i))],[(0,.arr 0 0 1 (aN l))],1⟩) _ ⟨0,rfl,by omega,fun j h=>by omega,rfl⟩ ?_)
 rintro n st ⟨i,rfl,hi,hn,rfl⟩
 refine u_4 ?_
 refine aR rfl (fun h=>aU ?_) (fun h=>dN ?_)
 ·simp at h
  have ha:=List.getElem?_eq_getElem h
  generalize l[i]=x at ha
  have ct:=aEy x (by have:=hml x (List.mem_of_getElem? ha);omega)
  have hseg:aE9 l i=(aAm x || (x==[43]) || (x==[42] && decide (i+1=l.length))):=by unfold aE9;rw [ha]
  obtain ⟨p,hp⟩:∃ p,aAm x=p:=⟨_,rfl⟩
  obtain ⟨u,hu⟩:∃ p,(x==[43])=p:=⟨_,rfl⟩
  obtain ⟨w,hw⟩:∃ p,(x==[42])=p:=⟨_,rfl⟩
  rw [hp] at ct
  rw [hp,hu,hw] at hseg
  have hwl:IntKind.i64.wrap ((l.length:Int)-1)=(l.length:Int)-1:=aA (by omega) (by omega)
  obtain ⟨z,hz⟩:∃ z,decide ((i:Int)=(l.length:Int)-1)=z:=⟨_,rfl⟩
  have hz2:decide (i+1=l.length)=z:=by rw [<-hz];exact decide_eq_decide.2 (by omega)
  rw [hz2] at hseg
  have hzb:((i:Int)==(l.length:Int)-1)=z:=by rw [<-hz];rfl
  refine aK (bE (aK ?_))
  refine nF 43 (!(p || u || (w && z))) (fun K hK=>?_) ?_
  ·simp [ha,hu,hw,hwl,hzb]
   repeat' (first|exact hK _ _ (by clear hK;first|omega|(exact decide_eq_false (by omega))|(exact decide_eq_true (by omega))|(exact (decide_eq_true (by omega)).symm)|(exact (decide_eq_false (by omega)).symm)|(exact decide_eq_decide.2 (by omega))|(simp only [<-decide_not];exact decide_eq_decide.2 (by omega))|(simp [*];done)|(simp [*];omega)|(simp_all;done)|(simp_all;omega)|(rw [Bool.eq_iff_iff];simp at *;omega))|(with_reducible refine aI (ct) ?_;simp [ha,hu,hw,hwl,hzb])|(with_reducible refine aM (fun _=>?_) (fun _=>?_)<;>simp [ha,hu,hw,hwl,hzb])|with_reducible refine And.intro ?_ ?_|with_reducible exact aS rfl|with_reducible assumption|omega)
  refine aR rfl (fun h2=>aK ?_) (fun h2=>aU ?_)
  ·refine u_5 ?_
   have:lR s=false:=by
    rw [hg,uO (i:=i) (by omega) (by rw [hseg];generalize (p || u || (w && z))=q at h2 ⊢;cases q<;>simp_all),Bool.false_and]
   exact u_7 this
  refine u_5 ?_
  refine ⟨l.length-(i+1),by omega,i+1,rfl,h,fun j hj=>?_,by simp [gc,bW,cZ,gcV,gcO,dZ,fJ,bF,cB,cR,eC];rw [aA (by omega) (by omega)]⟩
  by_cases e:j=i
  ·subst e;rw [hseg];generalize (p || u || (w && z))=q at h2 ⊢;cases q<;>simp_all
  ·exact hn j (by omega)
 ·simp at h
  rw [if_pos rfl]
  have hall:(List.range l.length).all (aE9 l)=true:=List.all_eq_true.2 fun j hj=>hn j (by have:=List.mem_range.1 hj;omega)
  refine u_1 ?_
  have:lR s=decide ((l.length:Int)<=8):=by rw [hg,hall,Bool.true_and];exact decide_eq_decide.2 (by omega)
  exact u_7 this
theorem fI (s:List UInt8) (hs:s.length<=4194304):aE PP GG 66 [.d (.str s)] (.d (.bool (fQ s))) [none]:=by
 refine cv Tryz.func66 [.d (.bool (fQ s))] ?_
 have cg:=oJ s hs
 have hp:fQ s=(lR s && !s.any aIC):=rfl
 generalize lR s=g at cg hp
 refine u_1 ?_
 refine aCf (Z1 cg) ?_
 refine aR rfl (fun h=>aK ?_) (fun h=>aU ?_)
 ·simp at h
  subst h
  refine u_5 ?_
  exact u_7 hp
 simp at h
 subst h
 refine u_4 ?_
 refine bE (bQ (fun n st=>∃ i:Nat,n=s.length-i/\i<=s.length/\(∀ y,y∈s.take i->aIC y=false)/\st=⟨[],[(0,.d (.str s)),(3,.d (.int .i64 i))],[],0⟩) _ ⟨0,rfl,by omega,fun y h=>by simp at h,rfl⟩ ?_)
 rintro n st ⟨i,rfl,hi,hn,rfl⟩
 refine u_4 ?_
 refine aR rfl (fun h=>aU ?_) (fun h=>dN ?_)
 ·simp at h
  have ha:=List.getElem?_eq_getElem h
  generalize s[i]=x at ha
  have hd:=oG ha
  obtain ⟨v,hv⟩:∃ v,x.toNat=v:=⟨_,rfl⟩
  have hnb:aIC x=decide (v=43\/v=42):=by rw [<-hv];rfl
  refine aK (bE (aK ?_))
  refine aPM (Y2 hd hv) 22 (decide (v=43\/v=42)) ?_
  refine aR rfl (fun h2=>aK ?_) (fun h2=>aU ?_)
  ·rw [h2]
   refine u_5 ?_
   have:fQ s=false:=by rw [hp,aQS ha (by rw [hnb];exact h2)];rfl
   exact u_7 this
  rw [h2]
  refine u_5 ?_
  exact ⟨s.length-(i+1),by omega,i+1,rfl,h,aAh ha hn (by rw [hnb];exact h2),by simp [gc,bW,cZ,gcV,gcO,dZ,bF,cB];rw [aA (by omega) (by omega)]⟩
 ·simp at h
  rw [if_pos rfl]
  rw [List.take_of_length_le h] at hn
  refine u_1 ?_
  have:fQ s=true:=by
   have e:s.any aIC=false:=by rw [List.any_eq_false];intro y hy;simp [hn y hy]
   rw [hp,e];rfl
  exact u_7 this
def inB (x lo hi:Int):Bool:=decide (lo<=x) && decide (x<=hi)
def kR (x:Int):Bool:=inB x 0 1099511627776
def uV (x:cO):Bool:=inB x.nA 1 1000000000 && inB x.fAt 0 1000000000 && inB x.aCu 0 1000000000 && eG x.qU && fQ x.fN && inB x.uA 0 99
def aRf (y x:cO):Bool:=decide (x.nA=y.nA+1/\y.fAt<=x.fAt)
def rE (l:List cO) (i:Nat):Bool:=match l[i]? with
 |none=>true
 |some x=>uV x && (match i with|0=>true|j+1=>match l[j]? with|some y=>aRf y x|none=>true)
def eU (c:dO):Bool:=decide (0<=c.iQ) && kR c.qV && decide (c.dM.length<=120) && (List.range c.dM.length).all (rE c.dM)
theorem gJ (x:Int):aE PP GG 69 [.d (.int .i64 x)] (.d (.bool (kR x))) [none]:=by
 refine cv Tryz.func69 [.d (.bool (kR x))] ?_
 have cl:aE PP GG 12 [.d (.int .i64 x),.d (.int .i64 0),.d (.int .i64 1099511627776)] (.d (.bool (kR x))) [none,none,none]:=bA x 0 1099511627776
 refine u_1 ?_
 refine u_8 (Z1 cl) ?_
 exact u_3
theorem tH {x:cO} (h:uV x=true):1<=x.nA/\x.nA<=1000000000:=by
 simp only [uV,inB,Bool.and_eq_true,decide_eq_true_eq] at h
 exact h.1.1.1.1.1
theorem aFj {l:List cO} {j:Nat} {y:cO} (h:rE l j=true) (hy:l[j]?=some y):uV y=true:=by
 unfold rE at h
 rw [hy] at h
 simp only [Bool.and_eq_true] at h
 exact h.1
theorem tA {p:Nat->Bool} {i:Nat} (hn:∀ j,j<i->p j=true) (h:p i=true):∀ j,j<i+1->p j=true:=fun j hj=>by
 by_cases e:j=i
 ·subst e;exact h
 ·exact hn j (by omega)
theorem sZ (c:dO) (hc:c.cost<=4194304):aE PP GG 110 [.agg c.c] (.d (.bool (eU c))) [none]:=by
 refine cv Tryz.func110 [.d (.bool (eU c))] ?_
 obtain ⟨f,k,l⟩:=c
 have hco:(dO.mk f k l).cost=l.length+cX cO.cost l:=rfl
 have ck:=gJ k
 have hr:eU (dO.mk f k l)=(decide (0<=f) && kR k && decide (l.length<=120) && (List.range l.length).all (rE l)):=rfl
 generalize kR k=p at ck hr
 obtain ⟨u,hu⟩:∃ u,decide (0<=f)=u:=⟨_,rfl⟩
 obtain ⟨v,hv⟩:∃ v,decide (l.length<=120)=v:=⟨_,rfl⟩
 have hu2:decide (f<0)=!u:=by rw [<-hu,<-decide_not];exact decide_eq_decide.2 (by omega)
 have hv2:decide (120<(l.length:Int))=!v:=by rw [<-hv,<-decide_not];exact decide_eq_decide.2 (by omega)
 rw [hu,hv] at hr
 refine u_1 ?_
 refine aNA (Y2 hu2 hv2) (Z1 ck) 19 (!(u && p && v)) ?_
 refine aR rfl (fun h=>aK ?_) (fun h=>aU ?_)
 ·refine u_5 ?_
  have:eU (dO.mk f k l)=false:=by rw [hr];revert h;cases u<;>cases p<;>cases v<;>simp
  exact u_7 this
 have hr2:eU (dO.mk f k l)=(List.range l.length).all (rE l):=by rw [hr];revert h;cases u<;>cases p<;>cases v<;>simp
 refine u_4 ?_
 refine bE (bQ (fun n st=>∃ i:Nat,n=l.length-i/\i<=l.length/\(∀ j,j<i->rE l j=true) ∧
  st=⟨[],[(1,.ptr 0 0),(3,.d (.int .i64 i))],[(0,.box [.d (.int .i64 f),.d (.int .i64 k),.d (.slc 7 (eK l))])],1⟩) _ ⟨0,rfl,by omega,fun j h=>by omega,rfl⟩ ?_)
 rintro n st ⟨i,rfl,hi,hn,rfl⟩
 refine u_4 ?_
 refine aR rfl (fun h2=>aU ?_) (fun h2=>dN ?_)
 ·simp at h2
  have ha:=List.getElem?_eq_getElem h2
  generalize l[i]=x at ha
  have hg:=lJ (f:=cO.cost) ha
  have hcx:x.cost=x.qU.length+x.fN.length:=rfl
  refine aK (bE (aK ?_))
  refine jJ ha ?_
  have c1:aE PP GG 12 [.d (.int .i64 x.nA),.d (.int .i64 1),.d (.int .i64 1000000000)] (.d (.bool (inB x.nA 1 1000000000))) [none,none,none]:=bA _ _ _
  have c2:aE PP GG 12 [.d (.int .i64 x.fAt),.d (.int .i64 0),.d (.int .i64 1000000000)] (.d (.bool (inB x.fAt 0 1000000000))) [none,none,none]:=bA _ _ _
  have c3:aE PP GG 12 [.d (.int .i64 x.aCu),.d (.int .i64 0),.d (.int .i64 1000000000)] (.d (.bool (inB x.aCu 0 1000000000))) [none,none,none]:=bA _ _ _
  have c4:=jZ x.qU (by omega)
  have c5:=fI x.fN (by omega)
  have c6:aE PP GG 12 [.d (.int .i64 x.uA),.d (.int .i64 0),.d (.int .i64 99)] (.d (.bool (inB x.uA 0 99))) [none,none,none]:=bA _ _ _
  have hno:uV x=(inB x.nA 1 1000000000 && inB x.fAt 0 1000000000 && inB x.aCu 0 1000000000 && eG x.qU && fQ x.fN && inB x.uA 0 99):=rfl
  generalize inB x.nA 1 1000000000=p1 at c1 hno
  generalize inB x.fAt 0 1000000000=p2 at c2 hno
  generalize inB x.aCu 0 1000000000=p3 at c3 hno
  generalize eG x.qU=p4 at c4 hno
  generalize fQ x.fN=p5 at c5 hno
  generalize inB x.uA 0 99=p6 at c6 hno
  refine aPN (Z6 c1 c2 c3 c4 c5 c6) 65 (!(p1 && p2 && p3 && p4 && p5 && p6)) ?_
  rw [<-hno]
  clear c1 c2 c3 c4 c5 c6
  generalize hq:uV x=q
  refine aR rfl (fun h3=>aK ?_) (fun h3=>aU ?_)
  ·refine u_5 ?_
   have:eU (dO.mk f k l)=false:=by
    rw [hr2]
    exact uO (i:=i) (by omega) (by unfold rE;rw [ha];simp only;rw [hq];revert h3;cases q<;>simp)
   exact u_7 this
  have hq1:q=true:=by revert h3;cases q<;>simp
  subst hq1
  cases i with
  |zero=>
   refine aTw ha 92 (false) ?_
   refine aR rfl (fun h4=>?_) (fun h4=>aU ?_)
   ·cases h4
   refine u_5 ?_
   exact ⟨l.length-(0+1),by omega,0+1,rfl,h2,tA hn (by unfold rE;rw [ha];simp only;rw [hq];rfl),by simp [gc,bW,cZ,gcV,gcO,dZ,dI,fJ,bF,cB,cR,eC];exact aA (by omega) (by omega)⟩
  |succ j=>
   have hb:=List.getElem?_eq_getElem (show j<l.length by omega)
   generalize l[j]'_=y at hb
   have hy:=tH (aFj (hn j (by omega)) hb)
   have hw1:IntKind.i64.wrap (j:Int)=j:=aA (by omega) (by omega)
   have hw2:IntKind.i64.wrap (y.nA+1)=y.nA+1:=aA (by omega) (by omega)
   have hlk:rE l (j+1)=decide (x.nA=y.nA+1/\y.fAt<=x.fAt):=by unfold rE;rw [ha];simp only [hq,hb,aRf,Bool.true_and]
   have hlt:j<l.length:=by omega
   refine aTw (Y4 ha hb hw1 hw2) 92 (decide (¬(x.nA=y.nA+1/\y.fAt<=x.fAt))) ?_
   refine aR rfl (fun h4=>aK ?_) (fun h4=>aU ?_)
   ·rw [h4]
    refine u_5 ?_
    have:eU (dO.mk f k l)=false:=by
     rw [hr2]
     exact uO (i:=j+1) (by omega) (by rw [hlk];exact decide_eq_false (of_decide_eq_true h4))
    exact u_7 this
   rw [h4]
   refine u_5 ?_
   refine ⟨l.length-(j+1+1),by omega,j+1+1,rfl,h2,tA hn (by rw [hlk];exact decide_eq_true (Decidable.not_not.1 (of_decide_eq_false h4))),?_⟩
   simp [gc,bW,cZ,gcV,gcO,dZ,dI,fJ,bF,cB,cR,eC]
   rw [aA (by omega) (by omega)]
 ·simp at h2
  rw [if_pos rfl]
  refine u_1 ?_
  have:eU (dO.mk f k l)=true:=by
   rw [hr2];exact List.all_eq_true.2 fun j hj=>hn j (by have:=List.mem_range.1 hj;omega)
  exact u_7 this
def aLM (c:dO):Int:=if eU c=true then (match c.dM.getLast? with|some x=>x.aAO|none=>c.iQ) else -1
theorem aOw {α:Type} {l:List α} {x:α} {n:Nat} (h:l.length=n+1) (hx:l[n]?=some x):l.getLast?=some x:=by
 rw [List.getLast?_eq_getElem?,h];exact hx
theorem aIL (c:dO) (hc:c.cost<=1048576):aE PP GG 112 [.agg c.c] (.d (.int .i64 (aLM c))) [none]:=by
 refine cv Tryz.func112 [.d (.int .i64 (aLM c))] ?_
 have cc:=sZ c (by omega)
 have hr:aLM c=if eU c=true then (match c.dM.getLast? with|some x=>x.aAO|none=>c.iQ) else -1:=rfl
 obtain ⟨f,k,l⟩:=c
 have hco:(dO.mk f k l).cost=l.length+cX cO.cost l:=rfl
 generalize eU (dO.mk f k l)=b at cc hr
 simp only at hr
 refine u_1 ?_
 refine aCf (Z1 cc) ?_
 refine aR rfl (fun h=>aK ?_) (fun h=>aU ?_)
 ·simp at h
  subst h
  refine u_5 ?_
  rw [if_neg (by simp)] at hr
  exact u_7 hr
 simp at h
 subst h
 rw [if_pos rfl] at hr
 cases hl:l with
 |nil=>
  subst hl
  refine aRJ @eK.eq_1 ?_
  refine aR rfl (fun h=>aK ?_) (fun h=>?_)
  rotate_left
  ·simp at h
  refine u_5 ?_
  exact u_7 hr
 |cons z r=>
  have ha:=List.getElem?_eq_getElem (show r.length<(z::r).length by simp)
  generalize (z::r)[r.length]'_=x at ha
  have hlast:l.getLast?=some x:=aOw (n:=r.length) (by rw [hl];simp) (by rw [hl];exact ha)
  have hlen:l.length=r.length+1:=by rw [hl];simp
  rw [<-hl] at ha ⊢
  rw [hlast] at hr
  simp only at hr
  clear hl
  have hw:IntKind.i64.wrap ((l.length:Int)-1)=(r.length:Int):=by rw [aA (by omega) (by omega)];omega
  refine u_4 ?_
  refine aR rfl (fun h=>aK ?_) (fun h=>aU ?_)
  ·simp at h;subst h;simp at hlen
  refine mL (Y2 hw ha) ?_
  exact u_7 hr
theorem aDD (l:List Int) (x:Int):bB (l++[x])=bB l++[[.int .i64 x]]:=by simp [bB]
def aNt (next:Int) (x:dE):Bool:=inB x.bU 1 (next-1) && inB x.bM 1 1000000000 && fQ x.mI
def qL (next:Int) (l:List dE) (i:Nat):Bool:=match l[i]? with
 |none=>true
 |some x=>aNt next x && (match i with|0=>true|j+1=>match l[j]? with|some y=>decide (y.bU<x.bU)|none=>true)
def kM (r:dV):Bool:=kR r.iP && inB r.bG 1 1000000000 && decide (r.cP.length<=60) && (List.range r.cP.length).all (qL r.bG r.cP)
theorem cC {x lo hi:Int} (h:inB x lo hi=true):lo<=x/\x<=hi:=by
 simp only [inB,Bool.and_eq_true,decide_eq_true_eq] at h;exact h
theorem uJ (r:dV) (hc:r.cost<=1048576):aE PP GG 136 [.agg r.c] (.d (.bool (kM r))) [none]:=by
 refine cv Tryz.func136 [.d (.bool (kM r))] ?_
 obtain ⟨f,k,l⟩:=r
 have hco:(dV.mk f k l).cost=l.length+cX dE.cost l:=rfl
 have ck:=gJ f
 have cn:aE PP GG 12 [.d (.int .i64 k),.d (.int .i64 1),.d (.int .i64 1000000000)] (.d (.bool (inB k 1 1000000000))) [none,none,none]:=bA _ _ _
 have hr:kM (dV.mk f k l)=(kR f && inB k 1 1000000000 && decide (l.length<=60) && (List.range l.length).all (qL k l)):=rfl
 have hkr:inB k 1 1000000000=true->1<=k/\k<=1000000000:=cC
 generalize kR f=p at ck hr
 generalize inB k 1 1000000000=u at cn hr hkr
 obtain ⟨v,hv⟩:∃ v,decide (l.length<=60)=v:=⟨_,rfl⟩
 have hv2:decide (60<(l.length:Int))=!v:=by rw [<-hv,<-decide_not];exact decide_eq_decide.2 (by omega)
 rw [hv] at hr
 refine u_1 ?_
 refine aNA hv2 (Z2 ck cn) 20 (!(p && u && v)) ?_
 refine aR rfl (fun h=>aK ?_) (fun h=>aU ?_)
 ·refine u_5 ?_
  have:kM (dV.mk f k l)=false:=by rw [hr];revert h;cases u<;>cases p<;>cases v<;>simp
  exact u_7 this
 have hr2:kM (dV.mk f k l)=(List.range l.length).all (qL k l):=by rw [hr];revert h;cases u<;>cases p<;>cases v<;>simp
 have hk:=hkr (by revert h;cases u<;>cases p<;>cases v<;>simp)
 have hwk:IntKind.i64.wrap (k-1)=k-1:=aA (by omega) (by omega)
 refine u_4 ?_
 refine bE (bQ (fun n st=>∃ i:Nat,n=l.length-i/\i<=l.length/\(∀ j,j<i->qL k l j=true) ∧
  st=⟨[],[(1,.ptr 0 0),(3,.d (.int .i64 i))],[(0,.box [.d (.int .i64 f),.d (.int .i64 k),.d (.slc 6 (gX l))])],1⟩) _ ⟨0,rfl,by omega,fun j h=>by omega,rfl⟩ ?_)
 rintro n st ⟨i,rfl,hi,hn,rfl⟩
 refine u_4 ?_
 refine aR rfl (fun h2=>aU ?_) (fun h2=>dN ?_)
 ·simp at h2
  have ha:=List.getElem?_eq_getElem h2
  generalize l[i]=x at ha
  have hg:=lJ (f:=dE.cost) ha
  have hcx:x.cost=x.mI.length+x.oM.cost:=rfl
  refine aK (bE (aK ?_))
  refine jJ ha ?_
  have c1:aE PP GG 12 [.d (.int .i64 x.bU),.d (.int .i64 1),.d (.int .i64 (k-1))] (.d (.bool (inB x.bU 1 (k-1)))) [none,none,none]:=bA _ _ _
  have c2:aE PP GG 12 [.d (.int .i64 x.bM),.d (.int .i64 1),.d (.int .i64 1000000000)] (.d (.bool (inB x.bM 1 1000000000))) [none,none,none]:=bA _ _ _
  have c3:=fI x.mI (by omega)
  have hno:aNt k x=(inB x.bU 1 (k-1) && inB x.bM 1 1000000000 && fQ x.mI):=rfl
  generalize inB x.bU 1 (k-1)=p1 at c1 hno
  generalize inB x.bM 1 1000000000=p2 at c2 hno
  generalize fQ x.mI=p3 at c3 hno
  refine aK (?_)
  cases i with
  |zero=>
   have hlk:qL k l 0=(p1 && p2 && p3):=by unfold qL;rw [ha];simp only [hno,Bool.and_true]
   refine aTv (Y2 ha hwk) (Z3 c1 c2 c3) 67 (!(p1 && p2 && p3)) ?_
   generalize (p1 && p2 && p3)=q at hlk
   refine aR rfl (fun h4=>aK ?_) (fun h4=>aU ?_)
   ·refine u_5 ?_
    have:kM (dV.mk f k l)=false:=by rw [hr2];exact uO (i:=0) (by omega) (by rw [hlk];revert h4;cases q<;>simp)
    exact u_7 this
   refine u_5 ?_
   exact ⟨l.length-(0+1),by omega,0+1,rfl,h2,tA hn (by rw [hlk];revert h4;cases q<;>simp),by simp [gc,bW,cZ,gcV,gcO,dZ,dI,fJ,bF,cB,cR,eC];exact aA (by omega) (by omega)⟩
  |succ j=>
   have hb:=List.getElem?_eq_getElem (show j<l.length by omega)
   generalize l[j]'_=y at hb
   have hw1:IntKind.i64.wrap (j:Int)=j:=aA (by omega) (by omega)
   obtain ⟨z,hz⟩:∃ z,decide (y.bU<x.bU)=z:=⟨_,rfl⟩
   have hz2:decide (x.bU<=y.bU)=!z:=by rw [<-hz,<-decide_not];exact decide_eq_decide.2 (by omega)
   have hlk:qL k l (j+1)=(p1 && p2 && p3 && z):=by unfold qL;rw [ha];simp only [hno,hb,hz]
   have hlt:j<l.length:=by omega
   refine aTv (Y5 ha hb hw1 hwk hz2) (Z3 c1 c2 c3) 67 (!(p1 && p2 && p3 && z)) ?_
   generalize (p1 && p2 && p3 && z)=q at hlk
   refine aR rfl (fun h4=>aK ?_) (fun h4=>aU ?_)
   ·refine u_5 ?_
    have:kM (dV.mk f k l)=false:=by rw [hr2];exact uO (i:=j+1) (by omega) (by rw [hlk];revert h4;cases q<;>simp)
    exact u_7 this
   refine u_5 ?_
   refine ⟨l.length-(j+1+1),by omega,j+1+1,rfl,h2,tA hn (by rw [hlk];revert h4;cases q<;>simp),?_⟩
   simp [gc,bW,cZ,gcV,gcO,dZ,dI,fJ,bF,cB,cR,eC]
   rw [aA (by omega) (by omega)]
 ·simp at h2
  rw [if_pos rfl]
  refine u_1 ?_
  have:kM (dV.mk f k l)=true:=by rw [hr2];exact List.all_eq_true.2 fun j hj=>hn j (by have:=List.mem_range.1 hj;omega)
  exact u_7 this
theorem aJu {α:Type} {p:α->Bool} {l:List α} {i:Nat} {x:α} (ha:l[i]?=some x) (hn:∀ y,y∈l.take i->p y=false) (hx:p x=true):l.findIdx? p=some i:=by
 obtain ⟨h,e⟩:=List.getElem?_eq_some_iff.1 ha
 rw [List.findIdx?_eq_some_iff_getElem]
 refine ⟨h,by rw [e];exact hx,fun j hj=>?_⟩
 have:=hn l[j] (List.mem_take_iff_getElem.2 ⟨j,by omega,rfl⟩)
 simp [this]
theorem aGF {α:Type} {p:α->Bool} {l:List α} (hn:∀ y,y∈l->p y=false):l.findIdx? p=none:=List.findIdx?_eq_none_iff.2 hn
def aGx {α:Type} (p:α->Bool) (l:List α):Int:=match l.findIdx? p with|some i=>(i:Int)|none=>-1
theorem aJ8 (r:dV) (id:Int) (hc:r.cost<=1048576):aE PP GG 139 [.agg r.c,.d (.int .i64 id)] (.d (.int .i64 (aGx (fun x:dE=>x.bU==id) r.cP))) [none,none]:=by
 refine cv Tryz.func139 [.d (.int .i64 (aGx (fun x:dE=>x.bU==id) r.cP))] ?_
 obtain ⟨f,k,l⟩:=r
 have hco:(dV.mk f k l).cost=l.length+cX dE.cost l:=rfl
 simp only
 refine u_1 ?_
 refine u_4 ?_
 refine bE (bQ (fun n st=>∃ i:Nat,n=l.length-i/\i<=l.length/\(∀ y,y∈l.take i->(y.bU==id)=false) ∧
  st=⟨[],[(1,.d (.int .i64 id)),(2,.ptr 0 0),(5,.d (.int .i64 i))],[(0,.box [.d (.int .i64 f),.d (.int .i64 k),.d (.slc 6 (gX l))])],1⟩) _ ⟨0,rfl,by omega,fun y h=>by simp at h,rfl⟩ ?_)
 rintro n st ⟨i,rfl,hi,hn,rfl⟩
 refine u_4 ?_
 refine aR rfl (fun h2=>aU ?_) (fun h2=>dN ?_)
 ·simp at h2
  have ha:=List.getElem?_eq_getElem h2
  generalize l[i]=x at ha
  refine aK (bE (aK ?_))
  refine jJ ha ?_
  refine aR rfl (fun h3=>aK ?_) (fun h3=>aU ?_)
  ·refine u_5 ?_
   have:aGx (fun x:dE=>x.bU==id) l=i:=by unfold aGx;rw [aJu ha hn (by simpa using h3)]
   exact u_7 this
  refine u_5 ?_
  exact ⟨l.length-(i+1),by omega,i+1,rfl,h2,aAh ha hn (by simpa using h3),by simp [gc,bW,cZ,gcV,gcO,dZ,dI,fJ,bF,cB,cR,eC];exact aA (by omega) (by omega)⟩
 ·simp at h2
  rw [if_pos rfl]
  rw [List.take_of_length_le h2] at hn
  refine u_1 ?_
  have:aGx (fun x:dE=>x.bU==id) l=-1:=by unfold aGx;rw [aGF hn]
  exact u_7 this
theorem iJ (a:List UInt8) (ha:a.length<=70368744177664):aE PP GG 55 [.d (.slc 1 (aB a))] (.own 0 1 (aB a)) [none]:=by
 refine cv Tryz.func55 [.own 0 1 (aB a)] ?_
 refine u_1 ?_
 refine mL @rD.eq_1 ?_
 refine u_4 ?_
 refine bE (bQ (fun n st=>∃ i:Nat,n=a.length-i/\i<=a.length ∧
  st=⟨[],[(0,.d (.slc 1 (aB a))),(3,.sl 0),(4,.d (.int .i64 i))],[(0,.arr 0 0 1 (aB (a.take i)))],1⟩) _ ⟨0,rfl,by omega,rfl⟩ ?_)
 rintro n st ⟨i,rfl,hi,rfl⟩
 refine u_4 ?_
 refine aR rfl (fun h=>aU ?_) (fun h=>dN ?_)
 ·simp at h
  have hx:=List.getElem?_eq_getElem h
  generalize a[i]=x at hx
  have hl:(a.take i).length<=a.length:=by rw [List.length_take];omega
  refine aK (bE ?_)
  refine jJ (Y2 hx @aJ.eq_1) ?_
  refine u_5 ?_
  exact ⟨a.length-(i+1),by omega,i+1,rfl,h,by simp [gc,bW,cZ,gcV,gcO,dZ,dI,fJ,bF,cB,cR,eC,vE hx];exact aA (by omega) (by omega)⟩
 ·simp at h
  rw [if_pos rfl]
  refine mL (List.take_of_length_le h) ?_
  exact u_3
theorem fE (a b:List UInt8) (ha:a.length+b.length<=70368744177664):aE PP GG 56 [.d (.slc 1 (aB a)),.d (.slc 1 (aB b))] (.own 0 1 (aB (a++b))) [none,none]:=by
 refine cv Tryz.func56 [.own 0 1 (aB (a++b))] ?_
 have cb:=iJ a (by omega)
 have happ:∀ x y:List UInt8,aB (x++y)=aB x++aB y:=fun x y=>by simp [aB]
 refine u_1 ?_
 refine u_8 (Z1 cb) ?_
 refine u_4 ?_
 refine bE (bQ (fun n st=>∃ i:Nat,n=b.length-i/\i<=b.length ∧
  st=⟨[],[(1,.d (.slc 1 (aB b))),(5,.sl 0),(6,.d (.int .i64 i))],[(0,.arr 0 0 1 (aB (a++b.take i)))],1⟩) _ ⟨0,rfl,by omega,by simp [gc,bW,cZ,gcV,gcO,dZ,dI,fJ,bF,cB,cR,eC]⟩ ?_)
 rintro n st ⟨i,rfl,hi,rfl⟩
 refine u_4 ?_
 refine aR rfl (fun h=>aU ?_) (fun h=>dN ?_)
 ·simp at h
  have hx:=List.getElem?_eq_getElem h
  generalize b[i]=x at hx
  have hl:(a++b.take i).length<=a.length+b.length:=by rw [List.length_append,List.length_take];omega
  have hs:=vE hx
  obtain ⟨w,hw⟩:∃ w,a++b.take i=w:=⟨_,rfl⟩
  have hw2:aB (a++b.take (i+1))=aB w++[[.int .u8 x.toNat]]:=by rw [happ,hs,<-hw,happ,List.append_assoc]
  rw [hw] at hl ⊢
  refine aK (bE ?_)
  refine jJ (Y2 hx @aJ.eq_1) ?_
  refine u_5 ?_
  exact ⟨b.length-(i+1),by omega,i+1,rfl,h,by simp [gc,bW,cZ,gcV,gcO,dZ,dI,fJ,bF,cB,cR,eC,hw2];exact aA (by omega) (by omega)⟩
 ·simp at h
  rw [if_pos rfl]
  refine mL (List.take_of_length_le h) ?_
  exact u_3
def wF (x:Int) (i:Nat):UInt8:=UInt8.ofNat ((x.toNat / 2 ^ (8*i)) % 256)
def mK (x:Int):List UInt8:=(List.range 8).map (wF x)
theorem aCM (x:Int):(mK x).length=8:=by simp [mK]
theorem aPD {x:Int} (hx:0<=x) {i q:Nat} (hi:i<8) (hq:x.toNat / 2 ^ (8*i)=q):wG .shr .i64 x (8*(i:Int))=some (.int .i64 (q:Int)):=by
 rw [aMf _ _ _ (by omega)]
 have e1:(8*(i:Int)).toNat=8*i:=by omega
 have e2:min (8*i) IntKind.i64.bits=8*i:=by
  show min (8*i) 64=8*i
  omega
 have e4:((2:Int) ^ (8*i))=((2 ^ (8*i):Nat):Int):=by simp
 obtain ⟨m,rfl⟩:∃ m:Nat,x=m:=⟨x.toNat,by omega⟩
 rw [e1,e2,e4,Int.fdiv_eq_ediv_of_nonneg _ (Int.natCast_nonneg _),<-hq]
 rfl
theorem aIo (q:Nat):eY .and .i64 (q:Int) 255=some (.int .i64 ((q % 256:Nat):Int)):=by
 have e:(BitVec.ofInt IntKind.i64.bits (q:Int) &&& BitVec.ofInt IntKind.i64.bits 255).toNat=q % 256:=by
  show (BitVec.ofInt 64 (q:Int) &&& 255#64).toNat=q % 256
  rw [BitVec.toNat_and,show (255#64).toNat=2 ^ 8-1 from rfl,Nat.and_two_pow_sub_one_eq_mod,BitVec.ofInt_natCast,BitVec.toNat_ofNat]
  omega
 show some (D.int .i64 (IntKind.i64.wrap (((BitVec.ofInt IntKind.i64.bits (q:Int) &&& BitVec.ofInt IntKind.i64.bits 255).toNat:Nat):Int)))=_
 rw [e,aA (by omega) (by omega)]
theorem aNv {x:Int} {i q:Nat} (hq:x.toNat / 2 ^ (8*i)=q):IntKind.u8.wrap ((q:Int) % 256)=((wF x i).toNat:Int):=by
 unfold wF
 rw [hq,IntKind.wrap_u8,UInt8.toNat_ofNat'];omega
theorem aL2 (x:Int) (i:Nat):aB ((List.range (i+1)).map (wF x))=aB ((List.range i).map (wF x))++[[.int .u8 (wF x i).toNat]]:=by
 simp [List.range_succ,aB]
theorem sX (x:Int) (hk:kR x=true):aE PP GG 165 [.d (.int .i64 x)] (.own 0 1 (aB (mK x))) [none]:=by
 refine cv Tryz.func165 [.own 0 1 (aB (mK x))] ?_
 have ck:=gJ x
 rw [hk] at ck
 have hx:=cC hk
 refine u_1 ?_
 refine mL @rD.eq_1 ?_
 refine aCf (Z1 ck) ?_
 refine aR rfl (fun h=>?_) (fun h=>aU ?_)
 ·simp at h
 refine u_4 ?_
 refine bE (bQ (fun n st=>∃ i:Nat,n=8-i/\i<=8 ∧
  st=⟨[],[(0,.d (.int .i64 x)),(3,.sl 0),(4,.d (.int .i64 i))],[(0,.arr 0 0 1 (aB ((List.range i).map (wF x))))],1⟩) _ ⟨0,rfl,by omega,rfl⟩ ?_)
 rintro n st ⟨i,rfl,hi,rfl⟩
 refine u_4 ?_
 refine aR rfl (fun h=>aU ?_) (fun h=>dN ?_)
 ·simp at h
  obtain ⟨q,hq⟩:∃ q:Nat,x.toNat / 2 ^ (8*i)=q:=⟨_,rfl⟩
  have f1:=aPD hx.1 (by omega) hq
  have f2:=aIo q
  have f3:=aNv hq
  have f4:IntKind.i64.wrap (8*(i:Int))=8*i:=aA (by omega) (by omega)
  have f5:IntKind.u64.wrap (8*(i:Int))=8*i:=by rw [IntKind.wrap_u64];omega
  have hs:=aL2 x i
  have hl:((List.range i).map (wF x)).length=i:=by simp
  generalize (List.range i).map (wF x)=w at hs hl ⊢
  generalize wF x i=b at f3 hs
  refine aK (bE ?_)
  refine jJ (Y6 f4 f5 f1 f2 f3 @aJ.eq_1) ?_
  refine u_5 ?_
  exact ⟨8-(i+1),by omega,i+1,rfl,by omega,by rw [hs];simp [gc,bW,cZ,gcV,gcO,dZ,dI,fJ,bF,cB,cR,eC];exact aA (by omega) (by omega)⟩
 ·simp at h
  have hi8:i=8:=by omega
  subst hi8
  rw [if_pos rfl]
  refine u_1 ?_
  exact u_7 @mK.eq_1
theorem tR (l:List UInt8):0<=qK l/\qK l<=4611686018427387904:=by
 have h1:=aPc l
 have h2:=aPb l
 unfold qK
 omega
def aMc (a:Int) (x:cO):Int:=qK (aFP a x.nA x.fAt x.aCu x.qU x.fN x.uA)
theorem aDT {c:dO} {i:Nat} {x:cO} (h:eU c=true) (hx:c.dM[i]?=some x):uV x=true:=by
 simp only [eU,Bool.and_eq_true,List.all_eq_true,List.mem_range] at h
 exact aFj (h.2 i ((List.getElem?_eq_some_iff.1 hx).1)) hx
theorem aMm (a:Int) (x:cO) (ha:cH a) (hx:x.ok) (h1:x.qU.length<=1048576) (h2:x.fN.length<=1048576):aE PP GG 111 [.d (.int .i64 a),.agg x.c] (.d (.int .i64 (aMc a x))) [none,none]:=
 aKa a x.nA x.fAt x.aCu x.qU x.fN x.uA x.aAO ha hx.1 hx.2.1 hx.2.2.1 hx.2.2.2.2.2.1 h1 h2
def aFq (c:dO):Int:=match c.dM.getLast? with|some x=>x.aAO|none=>c.iQ
theorem aFo (l:List cO):∀ row,row∈eK l->∀ d,d∈row->nG 0 d:=by
 intro row hr d hd
 simp only [eK,List.mem_map] at hr
 obtain ⟨x,_,rfl⟩:=hr
 simp only [cO.row,List.mem_cons,List.not_mem_nil,or_false] at hd
 rcases hd with rfl|rfl|rfl|rfl|rfl|rfl|rfl<;>trivial
theorem tC (l:List cO) (x:cO):eK (l++[x])=eK l++[x.row]:=by simp [eK]
theorem aKH (r:dO) (hc:r.cost<=4194304):aE PP GG 109 [.agg r.c] (.agg r.o) [none]:=by
 refine cv Tryz.func109 [.agg r.o] ?_
 obtain ⟨f,k,l⟩:=r
 have hco:(dO.mk f k l).cost=l.length+cX cO.cost l:=rfl
 refine u_1 ?_
 refine u_1 ?_
 refine u_4 ?_
 refine bE (bQ (fun n st=>∃ (i:Nat) (w:List cO),n=l.length-i/\i<=l.length/\w=l.take i ∧
  ((i=0/\st=⟨[],[(1,.ptr 0 0),(2,.ptr 1 0),(3,.ptr 2 0),(4,.d (.int .i64 0))],[(0,.box [.d (.int .i64 f),.d (.int .i64 k),.d (.slc 7 (eK l))]),(1,.box [.d (.int .i64 0),.d (.int .i64 0),.nil 0 7]),(2,.box [.d (.int .i64 f),.d (.int .i64 k),.nil 0 7])],3⟩) ∨
   st=⟨[],[(1,.ptr 0 0),(2,.ptr 1 0),(3,.ptr 2 0),(4,.d (.int .i64 i))],[(0,.box [.d (.int .i64 f),.d (.int .i64 k),.d (.slc 7 (eK l))]),(1,.box [.d (.int .i64 0),.d (.int .i64 0),.nil 0 7]),(2,.box [.d (.int .i64 f),.d (.int .i64 k),.sl 3]),(3,.arr 0 0 7 (eK w))],4⟩)) _ ⟨0,[],rfl,by omega,rfl,.inl ⟨rfl,rfl⟩⟩ ?_)
 rintro n st ⟨i,w,rfl,hi,hw,⟨rfl,rfl⟩|rfl⟩
 ·refine u_4 ?_
  refine aR rfl (fun h=>aU ?_) (fun h=>dN ?_)
  ·simp at h
   have ha:=List.getElem?_eq_getElem h
   generalize l[0]=x at ha
   have hg:=lJ (f:=cO.cost) ha
   refine aK (bE ?_)
   refine aRI (Y2 ha @aJ.eq_1) ?_
   refine u_5 ?_
   refine ⟨l.length-(0+1),by omega,0+1,[x],rfl,h,by rw [List.take_add_one,ha];rfl,.inr ?_⟩
   simp [gc,bW,cZ,gcV,gcO,dZ,dI,fJ,bF,cB,cR,eC,eK]
   exact aA (by omega) (by omega)
  ·simp at h
   have hnil:l=[]:=by first|exact h|exact List.length_eq_zero_iff.1 (by omega)
   rw [if_pos rfl]
   refine u_1 ?_
   exact u_7 (Y2 hnil @eK.eq_1)
 ·refine u_4 ?_
  refine aR rfl (fun h=>aU ?_) (fun h=>dN ?_)
  ·simp at h
   have ha:=List.getElem?_eq_getElem h
   generalize l[i]=x at ha
   have hg:=lJ (f:=cO.cost) ha
   have hwl:w.length<=l.length:=by rw [hw,List.length_take];omega
   have hs:w++[x]=l.take (i+1):=by rw [hw,List.take_add_one,ha];rfl
   refine aK (bE ?_)
   refine aRI (Y2 ha @aJ.eq_1) ?_
   refine u_5 ?_
   refine ⟨l.length-(i+1),by omega,i+1,w++[x],rfl,h,hs,.inr ?_⟩
   rw [tC]
   simp [gc,bW,cZ,gcV,gcO,dZ,dI,fJ,bF,cB,cR,eC]
   exact aA (by omega) (by omega)
  ·simp at h
   rw [List.take_of_length_le h] at hw
   subst hw
   rw [if_pos rfl]
   refine u_1 ?_
   exact u_3
def aR6 (n:cO) (s:Int):cO:={ n with nA:=s }
def aR5 (n:cO) (s:Int):cO:={ n with aAO:=s }
def oF (c:dO) (n:cO):cO:=
 let m:=aR6 n (match c.dM.getLast? with|some x=>x.nA+1|none=>1)
 aR5 m (aMc (aFq c) m)
def pD (c:dO) (x:cO):dO:=
 if c.dM.length=120 then { iQ:=(match c.dM with|z::_=>z.aAO|[]=>0),qV:=c.qV,dM:=c.dM.drop 1++[x] }
 else { iQ:=c.iQ,qV:=c.qV,dM:=c.dM++[x] }
def aNk (c:dO) (n:cO):Bool:=eU c && eU (pD c (oF c n))
def aJQ (c:dO) (n:cO):dO:=if aNk c n=true then pD c (oF c n) else c
theorem aDI (c:dO) (x:cO):(pD c x).cost<=c.cost+1+x.cost:=by
 have hsum:∀ (a b:List cO),cX cO.cost (a++b)=cX cO.cost a+cX cO.cost b:=fun a b=>aAk _ a b
 have hd:cX cO.cost (c.dM.drop 1)<=cX cO.cost c.dM:=by
  cases c.dM with
  |nil=>simp
  |cons z t=>show cX cO.cost t<=cX cO.cost (z::t);simp [cX]
 have h1:cX cO.cost [x]=x.cost:=by simp [cX]
 unfold pD
 split
 ·show (c.dM.drop 1++[x]).length+cX cO.cost (c.dM.drop 1++[x])<=c.dM.length+cX cO.cost c.dM+1+x.cost
  rw [hsum,h1,List.length_append,List.length_drop];simp only [List.length_cons,List.length_nil];omega
 ·show (c.dM++[x]).length+cX cO.cost (c.dM++[x])<=c.dM.length+cX cO.cost c.dM+1+x.cost
  rw [hsum,h1,List.length_append];simp;omega
theorem aFB {c:dO} (h:eU c=true):c.dM.length<=120:=by
 unfold eU at h;simp only [Bool.and_eq_true,decide_eq_true_eq] at h;omega
end Go.Proofs.YtiejbbcpihpgpaaGreat.Ab
