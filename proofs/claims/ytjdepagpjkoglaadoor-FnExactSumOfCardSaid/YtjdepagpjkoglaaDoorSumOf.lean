/-
  The law FnExactSumOf holds of the given program: for all arguments the program's SumOf returns what the reference's does.
-/
import Derived.Test.YtjdepagpjkoglaaDoorRows
import Derived.Test.YtjdepagpjkoglaaDoorTie
import Derived.Test.YtjdepagpjkoglaaDoorCards
import Derived.ProofKit
import Derived.LaidMore
import Derived.OpenShut
import Derived.Stop.Joined
import Derived.SevenTiedAt
import Derived.Test.YtjdepagpjkoglaaDoorFrameA
import Derived.Test.YtjdepagpjkoglaaDoorFrameB
import Derived.Test.YtjdepagpjkoglaaDoorFrameC
import Derived.Test.YtjdepagpjkoglaaDoorFrameD
import Derived.Test.YtjdepagpjkoglaaDoorFrameE
import Derived.Test.YtjdepagpjkoglaaDoorShelf
import Derived.Test.YtjdepagpjkoglaaDoorCodesSum
import Derived.Test.YtjdepagpjkoglaaDoorSumA
import Derived.Test.YtjdepagpjkoglaaDoorSumB
namespace Go.Proofs.YtjdepagpjkoglaaDoor
open Go.ChangeShapes Go.WideShapes Go.ChangeAt Go.RowKit Go.Proofs.YtjdepagpjkoglaaDoor.Ab

theorem Tryd.own : ownKnob Tryd.prog.godebug = none := by kernel_rfl
theorem Tryd.laidOut : laidOutB Tryd.prog = true := by kernel_rfl

/-- The package variables that the row lists. -/
noncomputable abbrev laidL : List (String × DataW Unit) := Rows.fnExactSumOfRow.laid

theorem door_met (os : Os) (args : Array Value) : laidMetH Tryd.prog laidL ((World.doorLaid Tryd.prog 4000 os).forCall (fun _ _ => 0) ⟨#[], args, []⟩).memory :=
  laidMetH_of_parts3 (fuel := 8) (laidMet_of_run' 8 (by kernel_rfl) (by kernel_rfl)) (by kernel_rfl) (by kernel_rfl)

theorem of_laid {W : World} (h : laidMetH Tryd.prog laidL W) : ∀ b p, GG b = some p → ∃ ob, W.heap[b]? = some ob ∧ p ob := by
  rw [MakeChecks.laidMetH_plain _ _ _ (by kernel_rfl)] at h
  obtain ⟨ps, ⟨g0, t0, cs0, f0, p0, q0, hg0, ht0, hv0, hd0, ⟨g1, t1, cs1, f1, p1, q1, hg1, ht1, hv1, hd1, ⟨g2, t2, cs2, f2, p2, q2, hg2, ht2, hv2, hd2, _, _⟩, _⟩, _⟩, _, _⟩ := h
  intro b p hb
  simp only [GG] at hb
  split at hb
  · rename_i e
    subst e
    cases hb
    have hgl : Tryd.prog.globalNamed "internal/strconv.uint64pow10" = some 0 := by kernel_rfl
    have hty : (Tryd.prog.globals[0]?).map (·.type) = some 68 := by kernel_rfl
    obtain rfl := Option.some.inj (hgl.symm.trans hg2)
    obtain rfl := Option.some.inj (hty.symm.trans ht2)
    have hc := Lib.cells_of_tab (zs := Lib.pow10Tab) Tryd.underlying68 (k := .u64) (by kernel_rfl) (by kernel_rfl) (by kernel_rfl) hd2
    unfold World.var? at hv2
    rw [hgl] at hv2
    simp only [Option.bind_some] at hv2
    split at hv2
    · rename_i cs t fr hh
      cases hv2
      refine ⟨_, hh, ?_⟩
      simp only [pow10Cells]
      rw [← hc]
    · cases hv2
  · cases hb

set_option maxRecDepth 100000 in
theorem lifted (os : Os) (started : os.Started) (H : Type) (enc : TypeId × Value → H) :
    ReturnsInHanded {} Tryd.checked os 4 .any (fun w args => (Rows.fnExactSumOfSpec.pre enc Tryd.prog Tryd.f4 [] false w args ∧ laidMetH Tryd.prog laidL w) ∧ sizedMet enc Tryd.prog Tryd.f4 (OpenSpec.ofChange Rows.fnExactSumOfSpec) false w args)
      (Rows.fnExactSumOfSpec.post enc Tryd.prog Tryd.f4 false true false false) := by
  refine returnsInHanded_of_change_and (C := Tryd.checked) (X := fun w _ => laidMetH Tryd.prog laidL w) (fun _ _ _ hh h => h.of_heap hh) Tryd.own started (by kernel_rfl) Tryd.func4
    (ChangeSpec.witness_shaped (enc := enc) (C := Tryd.checked) (os := os) (X := fun w _ => laidMetH Tryd.prog laidL w) false (World.doorLaid Tryd.prog 4000 os) #[.int .i64 0, .agg #[.int .i64 0, .int .i64 0, .int .i64 0, .string ⟨#[]⟩, .string ⟨#[]⟩, .int .i64 0, .int .i64 0]] 8 rfl (World.shaped_of_RefB (by kernel_rfl) (by kernel_rfl)) (by kernel_rfl) (by kernel_rfl) (by kernel_rfl) (door_met os _)) ?_
  intro W base args ds gs before hval hW _ _ hL _
  refine law_contractG (P := Tryd.prog) GG (tb := 4) Tryd.laidOut (by kernel_rfl) (by kernel_rfl) rfl rfl rfl (fun ds h => by match ds with | [d, e] => rfl) (fun dss h => ?_) W (of_laid hL) base args ds gs before hval hW
  obtain ⟨d0, d, rfl, h0, h1⟩ := fits_two (P := Tryd.prog) (t := 3) (u := 23) h
  obtain ⟨x, rfl, i0⟩ := typ_int Tryd.underlying3 h0
  obtain ⟨hl, hf⟩ := typ_struct Tryd.underlying23 h1
  rw [show Tryd.prog.cellsOf 23 = 7 by kernel_rfl] at hl
  match d, hl, hf with
  | [a, b, c, d, e, f, g], _, hf =>
    obtain ⟨s, e1, i1⟩ := typ_int (ds := [a]) Tryd.underlying3 (typ_field hf 0 rfl (n := 1) (by kernel_rfl))
    obtain ⟨at', e2, i2⟩ := typ_int (ds := [b]) Tryd.underlying3 (typ_field hf 1 rfl (n := 1) (by kernel_rfl))
    obtain ⟨w, e3, i3⟩ := typ_int (ds := [c]) Tryd.underlying3 (typ_field hf 2 rfl (n := 1) (by kernel_rfl))
    obtain ⟨t, e4, i4⟩ := typ_str (ds := [d]) Tryd.underlying9 (typ_field hf 3 rfl (n := 1) (by kernel_rfl))
    obtain ⟨p, e5, i5⟩ := typ_str (ds := [e]) Tryd.underlying9 (typ_field hf 4 rfl (n := 1) (by kernel_rfl))
    obtain ⟨k, e6, i6⟩ := typ_int (ds := [f]) Tryd.underlying3 (typ_field hf 5 rfl (n := 1) (by kernel_rfl))
    obtain ⟨m, e7, i7⟩ := typ_int (ds := [g]) Tryd.underlying3 (typ_field hf 6 rfl (n := 1) (by kernel_rfl))
    cases e1; cases e2; cases e3; cases e4; cases e5; cases e6; cases e7
    exact ⟨_, law_SumOf x s at' w t p k m i0 i1 i2 i3 i6 i4 i5⟩

theorem row_holds : Rows.FnExactSumOfSaid :=
  OpenClaim.holds_of_wide 4 Tryd.f4 rfl rfl rfl rfl rfl rfl rfl ⟨rfl, rfl, rfl, rfl, rfl⟩ rfl rfl rfl rfl rfl (by kernel_rfl) Tryd.func4 (by kernel_rfl)
    (of_decide_eq_true (by kernel_rfl)) (by unfold Func.isWrapper; first | (rw [if_pos (by decide +kernel)]; kernel_rfl) | (rw [if_neg (by decide +kernel)]; exact ⟨rfl, rfl⟩))
    (fun os started H enc _ => lifted os started H enc)

theorem card_holds : Rows.FnExactSumOfCardSaid :=
  Claim7.holds_tied_plain_at .later [] [.data, .data, .data] true (true, "39a15db1e996192085b78956be1f16b322625969a66461f590518d5518eaeb0e") false
    row_holds (fun _ h => by cases h) (by kernel_rfl) (fun _ h => by cases h) fnExactSumOf_row_tie rfl ⟨rfl, rfl⟩ (by kernel_rfl) rfl
    (fun f fn hf hfn => by
      obtain rfl : f = 4 := Option.some.inj ((show Tryd.prog.funcNamed "loop.example/g00705/laws.FnExactSumOf" = some 4 by kernel_rfl).symm.trans hf) |>.symm
      obtain rfl : fn = Tryd.f4 := (Option.some.inj (Tryd.func4.symm.trans hfn)).symm
      exact ⟨by kernel_rfl, fun j t ht => by
        have hall : (Tryd.f4.params.toList.all fun u => !Tryd.prog.wantsStandIn u) = true := by kernel_rfl
        have hm : t ∈ Tryd.f4.params.toList := by simpa using Array.mem_of_getElem? ht
        exact (show Tryd.prog.wantsStandIn t = false by simpa using List.all_eq_true.1 hall t hm)⟩)
    (by kernel_rfl)
end Go.Proofs.YtjdepagpjkoglaaDoor
