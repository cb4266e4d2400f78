/-
  The law FnExactRespLine holds of the given program: for all arguments the program's RespLine returns what the reference's does.
-/
import Derived.Test.YtjdepagpjkoglaaDoorRows
import Derived.Test.YtjdepagpjkoglaaDoorTie
import Derived.Test.YtjdepagpjkoglaaDoorCards
import Derived.ProofKit
import Derived.LaidMore
import Derived.OpenShut
import Derived.Stop.Joined
import Derived.SevenTiedAt
import Derived.Test.YtjdepagpjkoglaaDoorFrameA
import Derived.Test.YtjdepagpjkoglaaDoorFrameB
import Derived.Test.YtjdepagpjkoglaaDoorFrameC
import Derived.Test.YtjdepagpjkoglaaDoorFrameD
import Derived.Test.YtjdepagpjkoglaaDoorFrameE
import Derived.Test.YtjdepagpjkoglaaDoorShelf
import Derived.Test.YtjdepagpjkoglaaDoorCodesResp
import Derived.Test.YtjdepagpjkoglaaDoorRespA
import Derived.Test.YtjdepagpjkoglaaDoorRespB
import Derived.Test.YtjdepagpjkoglaaDoorRespC
import Derived.Test.YtjdepagpjkoglaaDoorRespD
namespace Go.Proofs.YtjdepagpjkoglaaDoor
open Go.ChangeShapes Go.WideShapes Go.ChangeAt Go.RowKit Go.Proofs.YtjdepagpjkoglaaDoor.Ab

theorem Tryd.own : ownKnob Tryd.prog.godebug = none := by kernel_rfl
theorem Tryd.laidOut : laidOutB Tryd.prog = true := by kernel_rfl

/-- The package variables that the row lists. -/
noncomputable abbrev laidL : List (String × DataW Unit) := Rows.fnExactRespLineRow.laid

theorem door_met (os : Os) (args : Array Value) : laidMetH Tryd.prog laidL ((World.doorLaid Tryd.prog 4000 os).forCall (fun _ _ => 0) ⟨#[], args, []⟩).memory :=
  laidMetH_of_parts3 (fuel := 8) (laidMet_of_run' 8 (by kernel_rfl) (by kernel_rfl)) (by kernel_rfl) (by kernel_rfl)

theorem of_laid {W : World} (h : laidMetH Tryd.prog laidL W) : ∀ b p, GG b = some p → ∃ ob, W.heap[b]? = some ob ∧ p ob := by
  rw [MakeChecks.laidMetH_plain _ _ _ (by kernel_rfl)] at h
  obtain ⟨ps, ⟨g0, t0, cs0, f0, p0, q0, hg0, ht0, hv0, hd0, ⟨g1, t1, cs1, f1, p1, q1, hg1, ht1, hv1, hd1, ⟨g2, t2, cs2, f2, p2, q2, hg2, ht2, hv2, hd2, _, _⟩, _⟩, _⟩, _, _⟩ := h
  intro b p hb
  simp only [GG] at hb
  split at hb
  · rename_i e
    subst e
    cases hb
    have hgl : Tryd.prog.globalNamed "internal/strconv.uint64pow10" = some 0 := by kernel_rfl
    have hty : (Tryd.prog.globals[0]?).map (·.type) = some 68 := by kernel_rfl
    obtain rfl := Option.some.inj (hgl.symm.trans hg2)
    obtain rfl := Option.some.inj (hty.symm.trans ht2)
    have hc := Lib.cells_of_tab (zs := Lib.pow10Tab) Tryd.underlying68 (k := .u64) (by kernel_rfl) (by kernel_rfl) (by kernel_rfl) hd2
    unfold World.var? at hv2
    rw [hgl] at hv2
    simp only [Option.bind_some] at hv2
    split at hv2
    · rename_i cs t fr hh
      cases hv2
      refine ⟨_, hh, ?_⟩
      simp only [pow10Cells]
      rw [← hc]
    · cases hv2
  · cases hb

set_option maxRecDepth 100000 in
theorem lifted (os : Os) (started : os.Started) (H : Type) (enc : TypeId × Value → H) :
    ReturnsInHanded {} Tryd.checked os 5 .any (fun w args => (Rows.fnExactRespLineSpec.pre enc Tryd.prog Tryd.f5 [] false w args ∧ laidMetH Tryd.prog laidL w) ∧ sizedMet enc Tryd.prog Tryd.f5 (OpenSpec.ofChange Rows.fnExactRespLineSpec) false w args)
      (Rows.fnExactRespLineSpec.post enc Tryd.prog Tryd.f5 false true false false) := by
  refine returnsInHanded_of_change_and (C := Tryd.checked) (X := fun w _ => laidMetH Tryd.prog laidL w) (fun _ _ _ hh h => h.of_heap hh) Tryd.own started (by kernel_rfl) Tryd.func5
    (ChangeSpec.witness_shaped (enc := enc) (C := Tryd.checked) (os := os) (X := fun w _ => laidMetH Tryd.prog laidL w) false (World.doorLaid Tryd.prog 4000 os) #[.agg #[.int .i64 0, .int .i64 0, .string ⟨#[]⟩, .string ⟨#[]⟩, .slice none 0 0]] 8 rfl (World.shaped_of_RefB (by kernel_rfl) (by kernel_rfl)) (by kernel_rfl) (by kernel_rfl) (by kernel_rfl) (door_met os _)) ?_
  intro W base args ds gs before hval hW _ _ hL _
  refine law_contractG (P := Tryd.prog) GG (tb := 4) Tryd.laidOut (by kernel_rfl) (by kernel_rfl) rfl rfl rfl (fun ds h => by match ds with | [d0] => rfl) (fun dss h => ?_) W (of_laid hL) base args ds gs before hval hW
  obtain ⟨d0, rfl, h0⟩ := fits_one (P := Tryd.prog) (t := 33) h
  obtain ⟨hl, hf⟩ := typ_struct Tryd.underlying33 h0
  rw [show Tryd.prog.cellsOf 33 = 5 by kernel_rfl] at hl
  match d0, hl, hf with
  | [a, b, c, d, e], _, hf =>
    obtain ⟨c', e1, i1⟩ := typ_int (ds := [a]) Tryd.underlying3 (typ_field hf 0 rfl (n := 1) (by kernel_rfl))
    obtain ⟨n, e2, i2⟩ := typ_int (ds := [b]) Tryd.underlying3 (typ_field hf 1 rfl (n := 1) (by kernel_rfl))
    obtain ⟨t, e3, i3⟩ := typ_str (ds := [c]) Tryd.underlying9 (typ_field hf 2 rfl (n := 1) (by kernel_rfl))
    obtain ⟨p, e4, i4⟩ := typ_str (ds := [d]) Tryd.underlying9 (typ_field hf 3 rfl (n := 1) (by kernel_rfl))
    obtain ⟨ls, e5, i5, i6⟩ := typ_strs (ds := [e]) Tryd.underlying31 Tryd.underlying9 (by kernel_rfl) (typ_field hf 4 rfl (n := 1) (by kernel_rfl))
    cases e1; cases e2; cases e3; cases e4; cases e5
    exact ⟨_, law_RespLine c' n t p ls i1 i2 i3 i4 i5 i6⟩

theorem row_holds : Rows.FnExactRespLineSaid :=
  OpenClaim.holds_of_wide 5 Tryd.f5 rfl rfl rfl rfl rfl rfl rfl ⟨rfl, rfl, rfl, rfl, rfl⟩ rfl rfl rfl rfl rfl (by kernel_rfl) Tryd.func5 (by kernel_rfl)
    (of_decide_eq_true (by kernel_rfl)) (by unfold Func.isWrapper; first | (rw [if_pos (by decide +kernel)]; kernel_rfl) | (rw [if_neg (by decide +kernel)]; exact ⟨rfl, rfl⟩))
    (fun os started H enc _ => lifted os started H enc)

theorem card_holds : Rows.FnExactRespLineCardSaid :=
  Claim7.holds_tied_plain_at .later [] [.data, .data, .data] true (true, "39a15db1e996192085b78956be1f16b322625969a66461f590518d5518eaeb0e") false
    row_holds (fun _ h => by cases h) (by kernel_rfl) (fun _ h => by cases h) fnExactRespLine_row_tie rfl ⟨rfl, rfl⟩ (by kernel_rfl) rfl
    (fun f fn hf hfn => by
      obtain rfl : f = 5 := Option.some.inj ((show Tryd.prog.funcNamed "loop.example/g00705/laws.FnExactRespLine" = some 5 by kernel_rfl).symm.trans hf) |>.symm
      obtain rfl : fn = Tryd.f5 := (Option.some.inj (Tryd.func5.symm.trans hfn)).symm
      exact ⟨by kernel_rfl, fun j t ht => by
        have hall : (Tryd.f5.params.toList.all fun u => !Tryd.prog.wantsStandIn u) = true := by kernel_rfl
        have hm : t ∈ Tryd.f5.params.toList := by simpa using Array.mem_of_getElem? ht
        exact (show Tryd.prog.wantsStandIn t = false by simpa using List.all_eq_true.1 hall t hm)⟩)
    (by kernel_rfl)
end Go.Proofs.YtjdepagpjkoglaaDoor
