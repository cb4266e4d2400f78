/-
  The law FnExactPutWrap returns true for all arguments and leaves its arguments as they were, where the listed package variables read as the program text lays them.
-/
import Derived.Test.YtpbofdbleajagaaDoorRows
import Derived.Test.YtpbofdbleajagaaDoorTie
import Derived.Test.YtpbofdbleajagaaDoorCards
import Derived.ProofKit
import Derived.Lay
import Derived.LaidMore
import Derived.LaidLaws
import Derived.OpenShut
import Derived.Stop.Joined
import Derived.SevenTiedAt
import Derived.Test.YtpbofdbleajagaaDoorFrameA
import Derived.Test.YtpbofdbleajagaaDoorFrameB
import Derived.Test.YtpbofdbleajagaaDoorFrameC
import Derived.Test.YtpbofdbleajagaaDoorFrameD
import Derived.Test.YtpbofdbleajagaaDoorFrameE
import Derived.Test.YtpbofdbleajagaaDoorShelf
import Derived.Test.YtpbofdbleajagaaDoorShelfB
import Derived.Test.YtpbofdbleajagaaDoorCodesM
import Derived.Test.YtpbofdbleajagaaDoorPartA
import Derived.Test.YtpbofdbleajagaaDoorPartB
import Derived.Test.YtpbofdbleajagaaDoorPartC
import Derived.Test.YtpbofdbleajagaaDoorPartD
import Derived.Test.YtpbofdbleajagaaDoorCodesP
import Derived.Test.YtpbofdbleajagaaDoorPartE
namespace Go.Proofs.YtpbofdbleajagaaDoor
open Go.ChangeShapes Go.WideShapes Go.ChangeAt Go.RowKit Go.Proofs.YtpbofdbleajagaaDoor.Ab

theorem Tryd.own : ownKnob Tryd.prog.godebug = none := by kernel_rfl
theorem Tryd.laidOut : laidOutB Tryd.prog = true := by kernel_rfl

/-- The package variables that the row lists. -/
noncomputable abbrev laidL : List (String × DataW Unit) := Rows.fnExactPutWrapRow.laid

/-- The package variables that the proof leans on. -/
def GL : GV := fun b => if b = 3 then some intCell else none
instance : MaxL GL := ⟨rfl⟩

theorem all_met (os : Os) (args : Array Value) : laidMetH Tryd.prog laidL ((World.laidAll Tryd.prog os laidL).forCall (fun _ _ => 0) ⟨#[], args, []⟩).memory := by
  rw [MakeChecks.laidMetH_plain _ _ _ (by kernel_rfl)]; exact laidMet_laidAll _ (by kernel_rfl) (by kernel_rfl)

theorem of_laid {W : World} (_h : laidMetH Tryd.prog laidL W) (hsh : W.ShapedOpen Tryd.prog) : ∀ b p, GL b = some p → ∃ ob, W.heap[b]? = some ob ∧ p ob := by
  intro b p hb
  simp only [GL] at hb
  split at hb
  · rename_i e
    subst e
    cases hb
    obtain ⟨cs, t, fr, hh, m, hm⟩ := shaped_int (P := Tryd.prog) hsh (g := 3) (of_decide_eq_true (by kernel_rfl)) (by kernel_rfl) (by kernel_rfl) (by kernel_rfl) Tryd.underlying3
    exact ⟨_, hh, m, hm⟩
  · cases hb

set_option maxRecDepth 100000 in
theorem lifted (os : Os) (started : os.Started) (H : Type) (enc : TypeId × Value → H) :
    ReturnsInHanded {} Tryd.checked os 10 .any (fun w args => (Rows.fnExactPutWrapSpec.pre enc Tryd.prog Tryd.f10 [] false w args ∧ laidMetH Tryd.prog laidL w) ∧ sizedMet enc Tryd.prog Tryd.f10 (OpenSpec.ofChange Rows.fnExactPutWrapSpec) false w args)
      (Rows.fnExactPutWrapSpec.post enc Tryd.prog Tryd.f10 false true false false) := by
  refine lift_shaped (C := Tryd.checked) (X := fun w => laidMetH Tryd.prog laidL w) (fun _ _ hh h => h.of_heap hh) Tryd.own started (by kernel_rfl) Tryd.func10
    (ChangeSpec.witness_shaped (enc := enc) (C := Tryd.checked) (os := os) (X := fun w _ => laidMetH Tryd.prog laidL w) false (World.laidAll Tryd.prog os laidL) #[.agg #[.int .i64 0, .int .i64 0, .slice none 0 0], .string ⟨#[]⟩, .slice none 0 0, .int .i64 0, .int .i64 0] 8 (World.laidAll_os _ _ _) (World.shaped_of_ZipB (by kernel_rfl) (by kernel_rfl)) (by kernel_rfl) (by kernel_rfl) (by kernel_rfl) (all_met os _)) ?_
  intro W base args ds gs before hval hW hL hsh
  refine law_contractG (P := Tryd.prog) GL (tb := 4) Tryd.laidOut (by kernel_rfl) (by kernel_rfl) rfl rfl rfl (fun ds h => by match ds with | [d0, d1, d2, d3, d4] => rfl) (fun dss h => ?_) W (of_laid hL hsh) base args ds gs before hval hW
  obtain ⟨d0, d1, d2, d3, d4, rfl, h0, h1, h2, h3, h4⟩ := fits_five (P := Tryd.prog) (t := 42) (u := 9) (v := 22) (x := 3) (y := 3) h
  obtain ⟨r, rfl, hok⟩ := typ_GRack (k := 6) h0
  obtain ⟨kind, rfl, hk⟩ := typ_str Tryd.underlying9 h1
  obtain ⟨plain, rfl, hp⟩ := typ_bytes Tryd.underlying22 Tryd.underlying5 (by kernel_rfl) h2
  obtain ⟨now, rfl, _⟩ := typ_int Tryd.underlying3 h3
  obtain ⟨ttl, rfl, _⟩ := typ_int Tryd.underlying3 h4
  exact ⟨_, law_PutWrap r kind plain now ttl hok hk hp⟩

theorem row_holds : Rows.FnExactPutWrapSaid :=
  OpenClaim.holds_of_wide 10 Tryd.f10 rfl rfl rfl rfl rfl rfl rfl ⟨rfl, rfl, rfl, rfl, rfl⟩ rfl rfl rfl rfl rfl (by kernel_rfl) Tryd.func10 (by kernel_rfl)
    (of_decide_eq_true (by kernel_rfl)) (by unfold Func.isWrapper; first | (rw [if_pos (by decide +kernel)]; kernel_rfl) | (rw [if_neg (by decide +kernel)]; exact ⟨rfl, rfl⟩))
    (fun os started H enc _ => lifted os started H enc)

theorem card_holds : Rows.FnExactPutWrapCardSaid :=
  Claim7.holds_tied_plain_at .later [] [.data, .pinned] true (true, "0b24da51e05a3accdcde159247e4e701391400777f1d9e1eb828d85613f4ccae") true
    row_holds (fun _ h => by cases h) (by kernel_rfl) (fun _ h => by cases h) fnExactPutWrap_row_tie rfl ⟨rfl, rfl⟩ (by kernel_rfl) rfl
    (fun f fn hf hfn => by
      obtain rfl : f = 10 := Option.some.inj ((show Tryd.prog.funcNamed "loop.example/g00705/laws.FnExactPutWrap" = some 10 by kernel_rfl).symm.trans hf) |>.symm
      obtain rfl : fn = Tryd.f10 := (Option.some.inj (Tryd.func10.symm.trans hfn)).symm
      exact ⟨by kernel_rfl, fun j t ht => by
        have hall : (Tryd.f10.params.toList.all fun u => !Tryd.prog.wantsStandIn u) = true := by kernel_rfl
        have hm : t ∈ Tryd.f10.params.toList := by simpa using Array.mem_of_getElem? ht
        exact (show Tryd.prog.wantsStandIn t = false by simpa using List.all_eq_true.1 hall t hm)⟩)
    (by kernel_rfl)
end Go.Proofs.YtpbofdbleajagaaDoor
