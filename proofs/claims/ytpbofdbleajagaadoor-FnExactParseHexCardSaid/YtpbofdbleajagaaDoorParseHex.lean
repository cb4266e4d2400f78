/-
  The law FnExactParseHex returns true for every text and leaves its argument as it was, where the listed package variables read as the program text lays them.
-/
import Derived.Test.YtpbofdbleajagaaDoorRows
import Derived.Test.YtpbofdbleajagaaDoorTie
import Derived.Test.YtpbofdbleajagaaDoorCards
import Derived.ProofKit
import Derived.LaidMore
import Derived.LaidLaws
import Derived.OpenShut
import Derived.Stop.Joined
import Derived.SevenTiedAt
import Derived.Test.YtpbofdbleajagaaDoorFrameA
import Derived.Test.YtpbofdbleajagaaDoorFrameB
import Derived.Test.YtpbofdbleajagaaDoorFrameC
import Derived.Test.YtpbofdbleajagaaDoorFrameD
import Derived.Test.YtpbofdbleajagaaDoorFrameE
import Derived.Test.YtpbofdbleajagaaDoorShelf
import Derived.Test.YtpbofdbleajagaaDoorCodesHex
import Derived.Test.YtpbofdbleajagaaDoorHexA
import Derived.Test.YtpbofdbleajagaaDoorHexB
import Derived.Test.YtpbofdbleajagaaDoorHexC
namespace Go.Proofs.YtpbofdbleajagaaDoor
open Go.ChangeShapes Go.WideShapes Go.ChangeAt Go.RowKit Go.Proofs.YtpbofdbleajagaaDoor.Ab

theorem Tryd.own : ownKnob Tryd.prog.godebug = none := by kernel_rfl
theorem Tryd.laidOut : laidOutB Tryd.prog = true := by kernel_rfl

/-- The package variables that the row lists. -/
noncomputable abbrev laidL : List (String × DataW Unit) := Rows.fnExactParseHexRow.laid

/-- The package variables that the proof leans on. -/
def GL : GV := fun b => if b = 0 then some errCell else none
instance : ESyn GL := ⟨rfl⟩

theorem door_met (os : Os) (args : Array Value) : laidMetH Tryd.prog laidL ((World.doorLaid Tryd.prog 4000 os).forCall (fun _ _ => 0) ⟨#[], args, []⟩).memory :=
  laidMetH_of_parts3 (fuel := 8) (laidMet_of_run' 8 (by kernel_rfl) (by kernel_rfl)) (by kernel_rfl) (by kernel_rfl)

theorem of_laid {W : World} (h : laidMetH Tryd.prog laidL W) : ∀ b p, GL b = some p → ∃ ob, W.heap[b]? = some ob ∧ p ob := by
  rw [MakeChecks.laidMetH_plain _ _ _ (by kernel_rfl)] at h
  obtain ⟨ps, ⟨g0, t0, cs0, f0, p0, q0, hg0, ht0, hv0, hd0, ⟨g1, t1, cs1, f1, p1, q1, hg1, ht1, hv1, hd1, ⟨g2, t2, cs2, f2, p2, q2, hg2, ht2, hv2, hd2, ⟨g3, t3, cs3, f3, p3, q3, hg3, ht3, hv3, hd3, ⟨g4, t4, cs4, f4, p4, q4, hg4, ht4, hv4, hd4, _, _⟩, _⟩, _⟩, _⟩, _⟩, _, _⟩ := h
  intro b p hb
  simp only [GL] at hb
  split at hb
  · rename_i e
    subst e
    cases hb
    have hgl : Tryd.prog.globalNamed "strconv.ErrSyntax" = some 0 := by kernel_rfl
    have hty : (Tryd.prog.globals[0]?).map (·.type) = some 72 := by kernel_rfl
    obtain rfl := Option.some.inj (hgl.symm.trans hg4)
    obtain rfl := Option.some.inj (hty.symm.trans ht4)
    obtain ⟨_, u, v, hc, _⟩ := iface_of_trod (ti := 72) Tryd.underlying72 hd4
    unfold World.var? at hv4
    rw [hgl] at hv4
    simp only [Option.bind_some] at hv4
    split at hv4
    · rename_i cs t fr hh
      cases hv4
      refine ⟨_, hh, ?_⟩
      refine ⟨.iface u v, ?_, .inr ⟨u, v, rfl⟩⟩
      rw [← Array.getElem?_toList, hc]; rfl
    · cases hv4
  · cases hb

set_option maxRecDepth 100000 in
theorem lifted (os : Os) (started : os.Started) (H : Type) (enc : TypeId × Value → H) :
    ReturnsInHanded {} Tryd.checked os 3 .any (fun w args => (Rows.fnExactParseHexSpec.pre enc Tryd.prog Tryd.f3 [] false w args ∧ laidMetH Tryd.prog laidL w) ∧ sizedMet enc Tryd.prog Tryd.f3 (OpenSpec.ofChange Rows.fnExactParseHexSpec) false w args)
      (Rows.fnExactParseHexSpec.post enc Tryd.prog Tryd.f3 false true false false) := by
  refine returnsInHanded_of_change_and (C := Tryd.checked) (X := fun w _ => laidMetH Tryd.prog laidL w) (fun _ _ _ hh h => h.of_heap hh) Tryd.own started (by kernel_rfl) Tryd.func3
    (ChangeSpec.witness_shaped (enc := enc) (C := Tryd.checked) (os := os) (X := fun w _ => laidMetH Tryd.prog laidL w) false (World.doorLaid Tryd.prog 4000 os) #[.string ⟨#[]⟩] 8 rfl (World.shaped_of_RefB (by kernel_rfl) (by kernel_rfl)) (by kernel_rfl) (by kernel_rfl) (by kernel_rfl) (door_met os _)) ?_
  intro W base args ds gs before hval hW _ _ hL _
  refine law_contractG (P := Tryd.prog) GL (tb := 4) Tryd.laidOut (by kernel_rfl) (by kernel_rfl) rfl rfl rfl (fun ds h => by match ds with | [d0] => rfl) (fun dss h => ?_) W (of_laid hL) base args ds gs before hval hW
  obtain ⟨d0, rfl, h0⟩ := fits_one (P := Tryd.prog) (t := 9) h
  obtain ⟨s, rfl, hs⟩ := typ_str Tryd.underlying9 h0
  exact ⟨_, law_ParseHex s hs⟩

theorem row_holds : Rows.FnExactParseHexSaid :=
  OpenClaim.holds_of_wide 3 Tryd.f3 rfl rfl rfl rfl rfl rfl rfl ⟨rfl, rfl, rfl, rfl, rfl⟩ rfl rfl rfl rfl rfl (by kernel_rfl) Tryd.func3 (by kernel_rfl)
    (of_decide_eq_true (by kernel_rfl)) (by unfold Func.isWrapper; first | (rw [if_pos (by decide +kernel)]; kernel_rfl) | (rw [if_neg (by decide +kernel)]; exact ⟨rfl, rfl⟩))
    (fun os started H enc _ => lifted os started H enc)

theorem card_holds : Rows.FnExactParseHexCardSaid :=
  Claim7.holds_tied_plain_at .later [] [.data, .data, .data, .sentinel, .sentinel] true (true, "0b24da51e05a3accdcde159247e4e701391400777f1d9e1eb828d85613f4ccae") true
    row_holds (fun _ h => by cases h) (by kernel_rfl) (fun _ h => by cases h) fnExactParseHex_row_tie rfl ⟨rfl, rfl⟩ (by kernel_rfl) rfl
    (fun f fn hf hfn => by
      obtain rfl : f = 3 := Option.some.inj ((show Tryd.prog.funcNamed "loop.example/g00705/laws.FnExactParseHex" = some 3 by kernel_rfl).symm.trans hf) |>.symm
      obtain rfl : fn = Tryd.f3 := (Option.some.inj (Tryd.func3.symm.trans hfn)).symm
      exact ⟨by kernel_rfl, fun j t ht => by
        have hall : (Tryd.f3.params.toList.all fun u => !Tryd.prog.wantsStandIn u) = true := by kernel_rfl
        have hm : t ∈ Tryd.f3.params.toList := by simpa using Array.mem_of_getElem? ht
        exact (show Tryd.prog.wantsStandIn t = false by simpa using List.all_eq_true.1 hall t hm)⟩)
    (by kernel_rfl)
end Go.Proofs.YtpbofdbleajagaaDoor
