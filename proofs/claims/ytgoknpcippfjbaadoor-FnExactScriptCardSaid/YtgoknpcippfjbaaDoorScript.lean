/-
  The law FnExactScript returns true for every list of requests, and leaves it as it was, where the listed package variables read as the program text lays them.
-/
import Derived.Test.YtgoknpcippfjbaaDoorRows
import Derived.Test.YtgoknpcippfjbaaDoorTie
import Derived.Test.YtgoknpcippfjbaaDoorCards
import Derived.ProofKit
import Derived.Lay
import Derived.LaidMore
import Derived.LaidLaws
import Derived.OpenShut
import Derived.Stop.Joined
import Derived.SevenTiedAt
import Derived.Test.YtgoknpcippfjbaaDoorFrameA
import Derived.Test.YtgoknpcippfjbaaDoorFrameB
import Derived.Test.YtgoknpcippfjbaaDoorFrameC
import Derived.Test.YtgoknpcippfjbaaDoorFrameD
import Derived.Test.YtgoknpcippfjbaaDoorFrameE
import Derived.Test.YtgoknpcippfjbaaDoorShelf
import Derived.Test.YtgoknpcippfjbaaDoorCodesA
import Derived.Test.YtgoknpcippfjbaaDoorCodesB
import Derived.Test.YtgoknpcippfjbaaDoorPartA
import Derived.Test.YtgoknpcippfjbaaDoorPartB
import Derived.Test.YtgoknpcippfjbaaDoorPartC
namespace Go.Proofs.YtgoknpcippfjbaaDoor
open Go.ChangeShapes Go.WideShapes Go.ChangeAt Go.RowKit Go.Proofs.YtgoknpcippfjbaaDoor.Ab

theorem Tryd.own : ownKnob Tryd.prog.godebug = none := by kernel_rfl
theorem Tryd.laidOut : laidOutB Tryd.prog = true := by kernel_rfl

/-- The package variables that the row lists. -/
noncomputable abbrev laidL : List (String × DataW Unit) := Rows.fnExactScriptRow.laid

/-- The package variables that the proof leans on. -/
def GL : GV := fun b => if b = 0 then some pow10Cells else if b = 4 then some errCell else if b = 5 then some errCell else if b = 1 then some intCell else none
instance : P10 GL := ⟨rfl⟩
instance : ESyn GL := ⟨rfl⟩
instance : ERng GL := ⟨rfl⟩
instance : MaxL GL := ⟨rfl⟩

theorem all_met (os : Os) (args : Array Value) : laidMetH Tryd.prog laidL ((World.laidAll Tryd.prog os laidL).forCall (fun _ _ => 0) ⟨#[], args, []⟩).memory := by
  rw [MakeChecks.laidMetH_plain _ _ _ (by kernel_rfl)]; exact laidMet_laidAll _ (by kernel_rfl) (by kernel_rfl)

theorem of_laid {W : World} (h : laidMetH Tryd.prog laidL W) (hsh : W.ShapedOpen Tryd.prog) : ∀ b p, GL b = some p → ∃ ob, W.heap[b]? = some ob ∧ p ob := by
  rw [MakeChecks.laidMetH_plain _ _ _ (by kernel_rfl)] at h
  obtain ⟨ps, ⟨g0, t0, cs0, f0, p0, q0, hg0, ht0, hv0, hd0, ⟨g1, t1, cs1, f1, p1, q1, hg1, ht1, hv1, hd1, ⟨g2, t2, cs2, f2, p2, q2, hg2, ht2, hv2, hd2, ⟨g3, t3, cs3, f3, p3, q3, hg3, ht3, hv3, hd3, ⟨g4, t4, cs4, f4, p4, q4, hg4, ht4, hv4, hd4, ⟨g5, t5, cs5, f5, p5, q5, hg5, ht5, hv5, hd5, ⟨g6, t6, cs6, f6, p6, q6, hg6, ht6, hv6, hd6, _, _⟩, _⟩, _⟩, _⟩, _⟩, _⟩, _⟩, _, _⟩ := h
  intro b p hb
  simp only [GL] at hb
  split at hb
  · rename_i e
    subst e
    cases hb
    have hgl : Tryd.prog.globalNamed "internal/strconv.uint64pow10" = some 0 := by kernel_rfl
    have hty : (Tryd.prog.globals[0]?).map (·.type) = some 100 := by kernel_rfl
    obtain rfl := Option.some.inj (hgl.symm.trans hg2)
    obtain rfl := Option.some.inj (hty.symm.trans ht2)
    have hc := Lib.cells_of_tab (zs := Lib.pow10Tab) Tryd.underlying100 (k := .u64) (by kernel_rfl) (by kernel_rfl) (by kernel_rfl) hd2
    unfold World.var? at hv2
    rw [hgl] at hv2
    simp only [Option.bind_some] at hv2
    split at hv2
    · rename_i cs t fr hh
      cases hv2
      refine ⟨_, hh, ?_⟩
      simp only [pow10Cells]
      rw [← hc]
    · cases hv2
  split at hb
  · rename_i e
    subst e
    cases hb
    have hgl : Tryd.prog.globalNamed "strconv.ErrSyntax" = some 4 := by kernel_rfl
    have hty : (Tryd.prog.globals[4]?).map (·.type) = some 42 := by kernel_rfl
    obtain rfl := Option.some.inj (hgl.symm.trans hg5)
    obtain rfl := Option.some.inj (hty.symm.trans ht5)
    obtain ⟨_, u, v, hc, _⟩ := iface_of_trod (ti := 42) Tryd.underlying42 hd5
    unfold World.var? at hv5
    rw [hgl] at hv5
    simp only [Option.bind_some] at hv5
    split at hv5
    · rename_i cs t fr hh
      cases hv5
      refine ⟨_, hh, ?_⟩
      refine ⟨.iface u v, ?_, .inr ⟨u, v, rfl⟩⟩
      rw [← Array.getElem?_toList, hc]; rfl
    · cases hv5
  split at hb
  · rename_i e
    subst e
    cases hb
    have hgl : Tryd.prog.globalNamed "strconv.ErrRange" = some 5 := by kernel_rfl
    have hty : (Tryd.prog.globals[5]?).map (·.type) = some 42 := by kernel_rfl
    obtain rfl := Option.some.inj (hgl.symm.trans hg4)
    obtain rfl := Option.some.inj (hty.symm.trans ht4)
    obtain ⟨_, u, v, hc, _⟩ := iface_of_trod (ti := 42) Tryd.underlying42 hd4
    unfold World.var? at hv4
    rw [hgl] at hv4
    simp only [Option.bind_some] at hv4
    split at hv4
    · rename_i cs t fr hh
      cases hv4
      refine ⟨_, hh, ?_⟩
      refine ⟨.iface u v, ?_, .inr ⟨u, v, rfl⟩⟩
      rw [← Array.getElem?_toList, hc]; rfl
    · cases hv4
  split at hb
  · rename_i e
    subst e
    cases hb
    obtain ⟨cs, t, fr, hh, m, hm⟩ := shaped_int (P := Tryd.prog) hsh (g := 1) (of_decide_eq_true (by kernel_rfl)) (by kernel_rfl) (by kernel_rfl) (by kernel_rfl) Tryd.underlying3
    exact ⟨_, hh, m, hm⟩
  · cases hb

set_option maxRecDepth 100000 in
theorem lifted (os : Os) (started : os.Started) (H : Type) (enc : TypeId × Value → H) :
    ReturnsInHanded {} Tryd.checked os 3 .any (fun w args => (Rows.fnExactScriptSpec.pre enc Tryd.prog Tryd.f3 [] false w args ∧ laidMetH Tryd.prog laidL w) ∧ sizedMet enc Tryd.prog Tryd.f3 (OpenSpec.ofChange Rows.fnExactScriptSpec) false w args)
      (Rows.fnExactScriptSpec.post enc Tryd.prog Tryd.f3 false true false false) := by
  refine lift_shaped (C := Tryd.checked) (X := fun w => laidMetH Tryd.prog laidL w) (fun _ _ hh h => h.of_heap hh) Tryd.own started (by kernel_rfl) Tryd.func3
    (ChangeSpec.witness_shaped (enc := enc) (C := Tryd.checked) (os := os) (X := fun w _ => laidMetH Tryd.prog laidL w) false (World.laidAll Tryd.prog os laidL) #[.slice none 0 0] 8 (World.laidAll_os _ _ _) (World.shaped_of_ZipB (by kernel_rfl) (by kernel_rfl)) (by kernel_rfl) (by kernel_rfl) (by kernel_rfl) (all_met os _)) ?_
  intro W base args ds gs before hval hW hL hsh
  refine law_contractG (P := Tryd.prog) GL (tb := 4) Tryd.laidOut (by kernel_rfl) (by kernel_rfl) rfl rfl rfl (fun ds h => by match ds with | [d0] => rfl) (fun dss h => ?_) W (of_laid hL hsh) base args ds gs before hval hW
  obtain ⟨d0, rfl, h0⟩ := fits_one (P := Tryd.prog) (t := 22) h
  obtain ⟨r0, e0, i0a, w0⟩ := typ_slc Tryd.underlying22 h0
  rw [show Tryd.prog.cellsOf 32 = 6 by kernel_rfl] at e0
  obtain ⟨a, rfl, hok⟩ := rows_of (p := GReq.ok) (f := GReq.row) r0 fun r hr => typ_GReq (k := 9) (w0 r hr)
  rw [List.length_map] at i0a
  cases e0
  exact ⟨_, law_Script a i0a hok⟩

theorem row_holds : Rows.FnExactScriptSaid :=
  OpenClaim.holds_of_wide 3 Tryd.f3 rfl rfl rfl rfl rfl rfl rfl ⟨rfl, rfl, rfl, rfl, rfl⟩ rfl rfl rfl rfl rfl (by kernel_rfl) Tryd.func3 (by kernel_rfl)
    (of_decide_eq_true (by kernel_rfl)) (by unfold Func.isWrapper; first | (rw [if_pos (by decide +kernel)]; kernel_rfl) | (rw [if_neg (by decide +kernel)]; exact ⟨rfl, rfl⟩))
    (fun os started H enc _ => lifted os started H enc)

theorem card_holds : Rows.FnExactScriptCardSaid :=
  Claim7.holds_tied_plain_at .later [] [.data, .data, .data, .data, .sentinel, .sentinel, .pinned] true (true, "ca07599dadb6f1c19377825365488acb3f80720d8031d65856091ca135041286") true
    row_holds (fun _ h => by cases h) (by kernel_rfl) (fun _ h => by cases h) fnExactScript_row_tie rfl ⟨rfl, rfl⟩ (by kernel_rfl) rfl
    (fun f fn hf hfn => by
      obtain rfl : f = 3 := Option.some.inj ((show Tryd.prog.funcNamed "loop.example/g00705/laws.FnExactScript" = some 3 by kernel_rfl).symm.trans hf) |>.symm
      obtain rfl : fn = Tryd.f3 := (Option.some.inj (Tryd.func3.symm.trans hfn)).symm
      exact ⟨by kernel_rfl, fun j t ht => by
        have hall : (Tryd.f3.params.toList.all fun u => !Tryd.prog.wantsStandIn u) = true := by kernel_rfl
        have hm : t ∈ Tryd.f3.params.toList := by simpa using Array.mem_of_getElem? ht
        exact (show Tryd.prog.wantsStandIn t = false by simpa using List.all_eq_true.1 hall t hm)⟩)
    (by kernel_rfl)
end Go.Proofs.YtgoknpcippfjbaaDoor
