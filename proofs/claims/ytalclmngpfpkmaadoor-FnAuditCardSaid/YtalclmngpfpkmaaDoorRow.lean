/-
  A part of a proof about the given program; what is proved is said where each theorem stands.
-/
import Derived.Test.YtalclmngpfpkmaaDoorRows
import Derived.Test.YtalclmngpfpkmaaDoorTie
import Derived.Test.YtalclmngpfpkmaaDoorCards
import Derived.ProofKit
import Derived.Lay
import Derived.LaidMore
import Derived.LaidLaws
import Derived.OpenShut
import Derived.Stop.Joined
import Derived.SevenTiedAt
import Derived.Test.YtalclmngpfpkmaaDoorFrameA
import Derived.Test.YtalclmngpfpkmaaDoorFrameB
import Derived.Test.YtalclmngpfpkmaaDoorFrameC
import Derived.Test.YtalclmngpfpkmaaDoorFrameD
import Derived.Test.YtalclmngpfpkmaaDoorFrameE
import Derived.Test.YtalclmngpfpkmaaDoorCodesA
import Derived.Test.YtalclmngpfpkmaaDoorShelf
import Derived.Test.YtalclmngpfpkmaaDoorPartA
import Derived.Test.YtalclmngpfpkmaaDoorPartB
import Derived.Test.YtalclmngpfpkmaaDoorPartC
namespace Go.Proofs.YtalclmngpfpkmaaDoor
open Go.ChangeShapes Go.WideShapes Go.ChangeAt Go.RowKit Go.Proofs.YtalclmngpfpkmaaDoor.Ab

theorem Tryd.own : ownKnob Tryd.prog.godebug = none := by kernel_rfl
theorem Tryd.laidOut : laidOutB Tryd.prog = true := by kernel_rfl

/-- The package variables that the row lists. -/
noncomputable abbrev laidL : List (String × DataW Unit) := Rows.fnAuditRow.laid

/-- The package variables that the proof leans on. -/
def GL : GV := fun b => if b = 0 then some pow10Cells else if b = 3 then some intCell else none
instance : P10 GL := ⟨rfl⟩
instance : MaxL GL := ⟨rfl⟩

theorem all_met (os : Os) (args : Array Value) : laidMetH Tryd.prog laidL ((World.laidAll Tryd.prog os laidL).forCall (fun _ _ => 0) ⟨#[], args, []⟩).memory := by
  rw [MakeChecks.laidMetH_plain _ _ _ (by kernel_rfl)]; exact laidMet_laidAll _ (by kernel_rfl) (by kernel_rfl)

theorem of_laid {W : World} (h : laidMetH Tryd.prog laidL W) (hsh : W.ShapedOpen Tryd.prog) : ∀ b p, GL b = some p → ∃ ob, W.heap[b]? = some ob ∧ p ob := by
  rw [MakeChecks.laidMetH_plain _ _ _ (by kernel_rfl)] at h
  obtain ⟨ps, ⟨g0, t0, cs0, f0, p0, q0, hg0, ht0, hv0, hd0, ⟨g1, t1, cs1, f1, p1, q1, hg1, ht1, hv1, hd1, ⟨g2, t2, cs2, f2, p2, q2, hg2, ht2, hv2, hd2, ⟨g3, t3, cs3, f3, p3, q3, hg3, ht3, hv3, hd3, ⟨g4, t4, cs4, f4, p4, q4, hg4, ht4, hv4, hd4, _, _⟩, _⟩, _⟩, _⟩, _⟩, _, _⟩ := h
  intro b p hb
  simp only [GL] at hb
  split at hb
  · rename_i e
    subst e
    cases hb
    have hgl : Tryd.prog.globalNamed "internal/strconv.uint64pow10" = some 0 := by kernel_rfl
    have hty : (Tryd.prog.globals[0]?).map (·.type) = some 96 := by kernel_rfl
    obtain rfl := Option.some.inj (hgl.symm.trans hg2)
    obtain rfl := Option.some.inj (hty.symm.trans ht2)
    have hc := Lib.cells_of_tab (zs := Lib.pow10Tab) Tryd.underlying96 (k := .u64) (by kernel_rfl) (by kernel_rfl) (by kernel_rfl) hd2
    unfold World.var? at hv2
    rw [hgl] at hv2
    simp only [Option.bind_some] at hv2
    split at hv2
    · rename_i cs t fr hh
      cases hv2
      refine ⟨_, hh, ?_⟩
      simp only [pow10Cells]
      rw [← hc]
    · cases hv2
  split at hb
  · rename_i e
    subst e
    cases hb
    obtain ⟨cs, t, fr, hh, m, hm⟩ := shaped_int (P := Tryd.prog) hsh (g := 3) (of_decide_eq_true (by kernel_rfl)) (by kernel_rfl) (by kernel_rfl) (by kernel_rfl) Tryd.underlying3
    exact ⟨_, hh, m, hm⟩
  · cases hb

set_option maxRecDepth 100000 in
theorem lifted (os : Os) (started : os.Started) (H : Type) (enc : TypeId × Value → H) :
    ReturnsInHanded {} Tryd.checked os 4 .any (fun w args => (Rows.fnAuditSpec.pre enc Tryd.prog Tryd.f4 [] false w args ∧ laidMetH Tryd.prog laidL w) ∧ sizedMet enc Tryd.prog Tryd.f4 (OpenSpec.ofChange Rows.fnAuditSpec) false w args)
      (Rows.fnAuditSpec.post enc Tryd.prog Tryd.f4 false true false false) := by
  refine lift_shaped (C := Tryd.checked) (X := fun w => laidMetH Tryd.prog laidL w) (fun _ _ hh h => h.of_heap hh) Tryd.own started (by kernel_rfl) Tryd.func4
    (ChangeSpec.witness_shaped (enc := enc) (C := Tryd.checked) (os := os) (X := fun w _ => laidMetH Tryd.prog laidL w) false (World.laidAll Tryd.prog os laidL) #[.slice none 0 0] 8 (World.laidAll_os _ _ _) (World.shaped_of_ZipB (by kernel_rfl) (by kernel_rfl)) (by kernel_rfl) (by kernel_rfl) (by kernel_rfl) (all_met os _)) ?_
  intro W base args ds gs before hval hW hL hsh
  refine law_contractG (P := Tryd.prog) GL (tb := 4) Tryd.laidOut (by kernel_rfl) (by kernel_rfl) rfl rfl rfl (fun ds h => by match ds with | [d0] => rfl) (fun dss h => ?_) W (of_laid hL hsh) base args ds gs before hval hW
  obtain ⟨d0, rfl, h0⟩ := fits_one (P := Tryd.prog) (t := 22) h
  obtain ⟨a, rfl, ha⟩ := typ_bytes Tryd.underlying22 Tryd.underlying5 (by kernel_rfl) h0
  exact ⟨_, law_AuditFn a ha⟩

theorem fact1 : Tryd.prog.inPlace 4 = Rows.fnAuditRow.inPlace := by kernel_rfl
theorem fact2 : Tryd.prog.unfollowed 4 = Rows.fnAuditRow.unfollowed := by kernel_rfl
theorem fact3 : Tryd.prog.recurses 4 = Rows.fnAuditRow.recurses := by kernel_rfl
theorem fact4 : Tryd.prog.varsNamed 4 = Rows.fnAuditRow.named := by kernel_rfl
theorem facts : joinedFacts Tryd.prog 4 Tryd.f4 Rows.fnAuditSpec Rows.fnAuditRow = true := by
  unfold joinedFacts
  rw [fact1, fact2, fact3, fact4]
  kernel_rfl

theorem row_holds : Rows.FnAuditSaid :=
  OpenClaim.holds_of_wide 4 Tryd.f4 rfl rfl rfl rfl rfl rfl rfl ⟨rfl, rfl, rfl, rfl, rfl⟩ rfl rfl rfl rfl rfl (by kernel_rfl) Tryd.func4 facts
    (of_decide_eq_true (by kernel_rfl)) (by unfold Func.isWrapper; first | (rw [if_pos (by decide +kernel)]; kernel_rfl) | (rw [if_neg (by decide +kernel)]; exact ⟨rfl, rfl⟩))
    (fun os started H enc _ => lifted os started H enc)

end Go.Proofs.YtalclmngpfpkmaaDoor
