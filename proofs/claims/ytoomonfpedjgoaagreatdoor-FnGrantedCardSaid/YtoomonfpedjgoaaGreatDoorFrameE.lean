/-
  A part of a proof about the given program; what is proved is said where each theorem stands.
-/
import Derived.Shelf.Spec.SlicesInsert
import Derived.Shelf.Spec.SlicesInsertGrow
import Derived.Shelf.SlGeneric
import Derived.Lib.Overlaps
import Derived.Lib.AppendZeros
import Derived.Laws.Externs
import Derived.Test.YtoomonfpedjgoaaGreatDoorFrameA
import Derived.Test.YtoomonfpedjgoaaGreatDoorFrameB
import Derived.Test.YtoomonfpedjgoaaGreatDoorFrameC
import Derived.Test.YtoomonfpedjgoaaGreatDoorFrameD
set_option linter.unusedSimpArgs false
set_option linter.unusedVariables false
namespace Go.Proofs.YtoomonfpedjgoaaGreatDoor.Ab
open Go.Proofs Go.Shelf Go.RowKit Go.Lib
structure InsL (P : Program) (ρ : Ren) (sz bytes : Nat) (z : Value) : Prop where
 mixed : P.follows .mixedOrders = true
 f22 : Bears P (ρ.f 22) (Body2.n22 ρ)
 f29 : ∀ args w, (callFunc (ρ.f 29) args).run P w = ((Extern.SlicesOverlaps.overlaps #[ρ.t 24, ρ.t 24] #[ρ.t 4] args).run P w).andThen fun v w' => Result.ok (Next.value v) w'
 t0 : P.underlying (ρ.t 0) = some (TypeDesc.tuple #[])
 a0 : ∀ w, (isAgg (ρ.t 0)).run P w = .ok false w
 z0 : ∀ w, (Go.sizeOf (ρ.t 0)).run P w = .ok 1 w
 v0 : ∀ w, (zeroValue (ρ.t 0)).run P w = .ok (Value.tuple #[]) w
 t3 : P.underlying (ρ.t 3) = some (TypeDesc.int IntKind.i64)
 a3 : ∀ w, (isAgg (ρ.t 3)).run P w = .ok false w
 z3 : ∀ w, (Go.sizeOf (ρ.t 3)).run P w = .ok 1 w
 v3 : ∀ w, (zeroValue (ρ.t 3)).run P w = .ok (Value.int IntKind.i64 0) w
 t4 : P.underlying (ρ.t 4) = some (TypeDesc.bool)
 a4 : ∀ w, (isAgg (ρ.t 4)).run P w = .ok false w
 z4 : ∀ w, (Go.sizeOf (ρ.t 4)).run P w = .ok 1 w
 v4 : ∀ w, (zeroValue (ρ.t 4)).run P w = .ok (Value.bool false) w
 t24 : P.underlying (ρ.t 24) = some (TypeDesc.slice (ρ.t 9))
 a24 : ∀ w, (isAgg (ρ.t 24)).run P w = .ok false w
 z24 : ∀ w, (Go.sizeOf (ρ.t 24)).run P w = .ok 1 w
 v24 : ∀ w, (zeroValue (ρ.t 24)).run P w = .ok (Value.slice none 0 0) w
 i9 : (P.info? (ρ.t 9)).map (fun i => (i.zero, i.size, i.bytes)) = some (some z, sz, bytes)
 hsz : 0 < sz
 hzs : z.cells.size = sz
 hz1 : (z.cells.toList.all fun u => u.oneCell') = true
variable {P : Program} {ρ : Ren} {sz bytes : Nat} {z : Value}
theorem InsL.z9 (L : InsL P ρ sz bytes z) : ∀ w, (Go.sizeOf (ρ.t 9)).run P w = .ok sz w := by
 obtain ⟨i0, hi0, h0, h1, h2⟩ := info_parts L.i9
 intro w
 rw [← h1]
 exact (info_runs hi0 h0).2 w
theorem run_copy_rows (w : World) (dT sT ty elem : TypeId) (b o dLen dCap : Nat) (a : Addr) (sLen sCap sz k : Nat) (cs : List Value)
  (hu : P.underlying dT = some (.slice elem)) (hs : (P.info? elem).map (·.size) = some sz) (hn : k = Nat.min sLen dLen) (hcs : cs.length = k * sz)
  (hsrc : ∀ j v, cs[j]? = some v → w.cell? (a.add j) = some v) (hc : ∀ j, j < cs.length → (w.cell? ⟨b, o + j, none⟩).isSome = true) (hf : ∀ j, j < cs.length → w.frozen? ⟨b, o + j, none⟩ = false) (h1 : ∀ v ∈ cs, v.oneCell' = true) :
  (Builtin.copy_ #[dT, sT] ty #[.slice (some ⟨b, o, none⟩) dLen dCap, .slice (some a) sLen sCap]).run P w = .ok (goInt k) (w.setCells b o cs) := by
 have hl := run_loadCells_list (P := P) w a cs hsrc
 have hst := run_storeCells_cells (P := P) b o cs 0 w (by simpa using hc) (by simpa using hf) h1
 cases hq : P.info? elem with
 | none => simp [hq] at hs
 | some i =>
  have hi : i.size = sz := by simpa [hq] using hs
  rw [hcs] at hl
  simp [Builtin.copy_, run_underlying hu, Builtin.lenOf, Builtin.firstCells, sizeOf, typeInfo, hq, hi, ← hn, hl, hst]
theorem ins_size (L : InsL P ρ sz bytes z) : (P.info? (ρ.t 9)).map (·.size) = some sz := by
 obtain ⟨i0, hi0, h0, h1, h2⟩ := info_parts L.i9
 rw [hi0]; simp [h1]
theorem run_overlaps_own (w : World) (tS tR e : TypeId) (ht : P.underlying tS = some (.slice e)) (size : Nat) (hz : ∀ w, (Go.sizeOf e).run P w = .ok size w)
  (a b : Addr) (la ca lb cb : Nat) (hne : a.block ≠ b.block) (tA tB : TypeId) (kA kB : Nat)
  (hsa : w.shape? a.block = some (tA, kA)) (hsb : w.shape? b.block = some (tB, kB)) (hkA : kA ≠ 0) (hkB : kB ≠ 0)
  (hfb : w.frozen? b = false) (hfe : w.frozen? { block := b.block, off := kB } = false) :
  (Extern.SlicesOverlaps.overlaps #[tS, tS] #[tR] #[.slice (some a) la ca, .slice (some b) lb cb]).run P w = .ok (.bool false) w := by
 have hnb : (a.block != b.block) = true := by simpa using hne
 have hnb' : (a.block == b.block) = false := by simpa using hne
 change Sem.run P (α := Value) (do
  let some t := (#[tS, tS] : Array TypeId)[0]? | stuck "slices.overlaps: no parameter types"
  let .slice elem ← underlying t | stuck "slices.overlaps: slice type expected"
  let size ← sizeOf elem
  match (some a : Option Addr), (some b : Option Addr) with
  | some a, some b =>
   if la = 0 ∨ lb = 0 ∨ size = 0 then pure (Value.bool false)
   else if a.block != b.block && (← frozen a) && (← frozen b) then unsupported .addressObserved
   else do
    if a.block != b.block then do
     noView a; noView b
     if ← mayBeOne a b then return Value.bool ((← choose (.extern "sameAddr.stringBytes" 2)) == 1)
    pure (Value.bool (a.block == b.block && a.off < b.off + lb * size && b.off < a.off + la * size))
  | _, _ => pure (Value.bool false)) w = _
 by_cases h0 : la = 0 ∨ lb = 0 ∨ size = 0
 ·simp [run_underlying ht, hz, h0]
 ·cases kB with
  | zero => exact absurd rfl hkB
  | succ kB =>
   cases kA with
   | zero => exact absurd rfl hkA
   | succ kA =>
    cases hfa : w.frozen? a
    ·cases hfx : w.frozen? { block := a.block, off := kA + 1 } <;> simp [run_underlying ht, hz, h0, hnb, hnb', frozen, noView, viewAt, mayBeOne, stringish, shape, Sem.run, hsa, hsb, hfa, hfb, hfe, hfx]
    ·simp [run_underlying ht, hz, h0, hnb, hnb', frozen, noView, viewAt, mayBeOne, stringish, shape, Sem.run, hsa, hsb, hfa, hfb, hfe]
theorem run_overlaps_same (w : World) (tS tR e : TypeId) (ht : P.underlying tS = some (.slice e)) (size : Nat) (hz : ∀ w, (Go.sizeOf e).run P w = .ok size w)
  (b oa ob la ca lb cb : Nat) (hap : oa + la * size ≤ ob ∨ ob + lb * size ≤ oa) :
  (Extern.SlicesOverlaps.overlaps #[tS, tS] #[tR] #[.slice (some ⟨b, oa, none⟩) la ca, .slice (some ⟨b, ob, none⟩) lb cb]).run P w = .ok (.bool false) w := by
 change Sem.run P (α := Value) (do
  let some t := (#[tS, tS] : Array TypeId)[0]? | stuck "slices.overlaps: no parameter types"
  let .slice elem ← underlying t | stuck "slices.overlaps: slice type expected"
  let size ← sizeOf elem
  match (some (⟨b, oa, none⟩ : Addr) : Option Addr), (some (⟨b, ob, none⟩ : Addr) : Option Addr) with
  | some a, some b =>
   if la = 0 ∨ lb = 0 ∨ size = 0 then pure (Value.bool false)
   else if a.block != b.block && (← frozen a) && (← frozen b) then unsupported .addressObserved
   else do
    if a.block != b.block then do
     noView a; noView b
     if ← mayBeOne a b then return Value.bool ((← choose (.extern "sameAddr.stringBytes" 2)) == 1)
    pure (Value.bool (a.block == b.block && a.off < b.off + lb * size && b.off < a.off + la * size))
  | _, _ => pure (Value.bool false)) w = _
 have hx : (decide (oa < ob + lb * size) && decide (ob < oa + la * size)) = false := by
  rcases hap with h | h
  ·rw [Bool.and_eq_false_iff]; right; simp; omega
  ·rw [Bool.and_eq_false_iff]; left; simp; omega
 by_cases h0 : la = 0 ∨ lb = 0 ∨ size = 0
 ·simp [run_underlying ht, hz, h0]
 ·simp [run_underlying ht, hz, h0]
  cases w.frozen? ⟨b, oa, none⟩ <;> cases w.frozen? ⟨b, ob, none⟩ <;> simpa using hx
end Go.Proofs.YtoomonfpedjgoaaGreatDoor.Ab

set_option linter.unusedSimpArgs false
set_option linter.unusedVariables false
namespace Go.Proofs.YtoomonfpedjgoaaGreatDoor.Ab
open Go.Proofs Go.Shelf Go.RowKit Go.Lib
variable {P : Program} {ρ : Ren} {sz bytes : Nat} {z : Value}
set_option maxHeartbeats 4000000 in
set_option maxRecDepth 1000000 in
theorem ins_shift (L : InsL P ρ sz bytes z) (b off n c i vb voff vc : Nat) (cs vs : List Value) (w : World) (hi : i < n) (hroom : n + 1 ≤ c) (hn63 : n + 1 ≤ 9223372036854775807) (hvb : vb = b → voff + sz ≤ off ∨ off + (n + 1) * sz ≤ voff)
  (hcl : cs.length = n * sz) (hvl : vs.length = sz)
  (hcs : ∀ j v, cs[j]? = some v → w.cell? ⟨b, off + j, none⟩ = some v) (hsp : ∀ j, j < (n + 1) * sz → (w.cell? ⟨b, off + j, none⟩).isSome = true) (hfz : ∀ j, j < (n + 1) * sz → w.frozen? ⟨b, off + j, none⟩ = false)
  (hvs : ∀ j v, vs[j]? = some v → w.cell? ⟨vb, voff + j, none⟩ = some v) (h1c : ∀ v ∈ cs, v.oneCell' = true) (h1v : ∀ v ∈ vs, v.oneCell' = true)
  (tA tB : TypeId) (kA kB : Nat) (hsa : w.shape? vb = some (tA, kA)) (hsb : w.shape? b = some (tB, kB)) (hkA : kA ≠ 0) (hkB : kB ≠ 0) (hfb : ∀ o, w.frozen? ⟨b, o, none⟩ = false) :
  Calls P (ρ.f 22) #[.slice (some ⟨b, off, none⟩) n c, .int .i64 i, .slice (some ⟨vb, voff, none⟩) 1 vc] w fun e w' =>
   e = .returned (.slice (some ⟨b, off, none⟩) (n + 1) c) ∧ w' = (w.drew.setCells b (off + (i + 1) * sz) (cs.drop (i * sz))).setCells b (off + i * sz) vs := by
 have t0 := L.t0; have a0 := L.a0; have z0 := L.z0; have v0 := L.v0; have t3 := L.t3; have a3 := L.a3; have z3 := L.z3; have v3 := L.v3; have t4 := L.t4; have a4 := L.a4; have z4 := L.z4; have v4 := L.v4; have t24 := L.t24; have a24 := L.a24; have z24 := L.z24; have v24 := L.v24
 have z9 := L.z9
 have u0 := run_underlying L.t0; have u3 := run_underlying L.t3; have u4 := run_underlying L.t4; have u24 := run_underlying L.t24
 have hsz := L.hsz
 have mixed := L.mixed
 have hz2 : ¬ ((i : Int) = (n : Int)) := by omega
 have e1 : (i + 1) * sz = i * sz + sz := by rw [Nat.add_mul]; omega
 have e2 : (n + 1) * sz = n * sz + sz := by rw [Nat.add_mul]; omega
 have e3 : i * sz + (n - i) * sz = n * sz := by rw [← Nat.add_mul]; congr 1; omega
 have hdl : (cs.drop (i * sz)).length = (n - i) * sz := by rw [List.length_drop, hcl]; omega
 have e5 : (i + 1) * sz + (n - i) * sz = (n + 1) * sz := by rw [← Nat.add_mul]; congr 1; omega
 have hov : ∀ cb, (callFunc (ρ.f 29) #[.slice (some ⟨vb, voff, none⟩) 1 vc, .slice (some ⟨b, off + (i + 1) * sz, none⟩) (n - i) cb]).run P w = .ok (.value (.bool false)) w := fun cb => by
  by_cases hb : vb = b
  ·have h' := hvb hb
   subst hb
   rw [L.f29, run_overlaps_same w (ρ.t 24) (ρ.t 4) (ρ.t 9) L.t24 sz L.z9 vb voff (off + (i + 1) * sz) 1 vc (n - i) cb (by omega)]
   rfl
  ·rw [L.f29, run_overlaps_own w (ρ.t 24) (ρ.t 4) (ρ.t 9) L.t24 sz L.z9 ⟨vb, voff, none⟩ ⟨b, off + (i + 1) * sz, none⟩ 1 vc (n - i) cb hb tA tB kA kB hsa hsb hkA hkB (hfb _) (hfb _)]
   rfl
 have hin : i ≤ n := by omega
 have hcp1 : ∀ ty dc sc, (Builtin.copy_ #[ρ.t 24, ρ.t 24] ty #[.slice (some ⟨b, off + (i + 1) * sz, none⟩) (n - i) dc, .slice (some ⟨b, off + i * sz, none⟩) (n + 1 - i) sc]).run P w.drew = .ok (goInt ((n - i : Nat) : Int)) (w.drew.setCells b (off + (i + 1) * sz) (cs.drop (i * sz))) := fun ty dc sc =>
  run_copy_rows w.drew _ _ ty (ρ.t 9) b (off + (i + 1) * sz) (n - i) dc ⟨b, off + i * sz, none⟩ (n + 1 - i) sc sz (n - i) (cs.drop (i * sz)) L.t24 (ins_size L) (by simp only [Nat.min_def]; split <;> omega) hdl
   (fun j v hj => by rw [Addr.add_lit, Nat.add_assoc]; exact hcs (i * sz + j) v (by rwa [List.getElem?_drop] at hj))
   (fun j hj => by rw [Nat.add_assoc]; exact hsp _ (by omega)) (fun j hj => by rw [Nat.add_assoc]; exact hfz _ (by omega)) (fun v hv => h1c v (List.mem_of_mem_drop hv))
 obtain ⟨W1, hW1⟩ : ∃ W1, W1 = w.drew.setCells b (off + (i + 1) * sz) (cs.drop (i * sz)) := ⟨_, rfl⟩
 have hsp1 : ∀ k, k < (n + 1) * sz → (W1.cell? ⟨b, off + k, none⟩).isSome = true := fun k hk => by
  rw [hW1]
  exact World.isSome_setCells b _ _ _ _ (hsp k hk)
 have hcp2 : ∀ (W : World), (∀ x, W.cell? x = W1.cell? x) → (∀ x, W.frozen? x = W1.frozen? x) → ∀ ty dc, (Builtin.copy_ #[ρ.t 24, ρ.t 24] ty #[.slice (some ⟨b, off + i * sz, none⟩) (n + 1 - i) dc, .slice (some ⟨vb, voff, none⟩) 1 vc]).run P W = .ok (goInt ((1 : Nat) : Int)) (W.setCells b (off + i * sz) vs) := fun W hWc hWf ty dc =>
  run_copy_rows W _ _ ty (ρ.t 9) b (off + i * sz) (n + 1 - i) dc ⟨vb, voff, none⟩ 1 vc sz 1 vs L.t24 (ins_size L) (by simp only [Nat.min_def]; split <;> omega) (by omega)
   (fun j v hj => by
    rw [Addr.add_lit, hWc, hW1, World.cell?_setCells_out b _ _ _ _ (fun h _ => by
     have hj2 := (List.getElem?_eq_some_iff.1 hj).1
     have := hvb h
     show voff + j < _ ∨ _ ≤ voff + j
     omega)]
    exact hvs j v hj)
   (fun j hj => by rw [hWc, Nat.add_assoc]; exact hsp1 _ (by omega)) (fun j hj => by rw [hWf, hW1, World.frozen?_setCells, Nat.add_assoc]; exact hfz _ (by omega)) h1v
 rw [← hW1] at hcp1
 have hw1 : IntKind.i64.wrap ((i : Int) + 1) = (i : Int) + 1 := by rw [IntKind.wrap_i64]; omega
 obtain ⟨_, _, FG⟩ := L.f22
 have hb1 : (0 : Int) ≤ (i : Int) + 1 := by omega
 have htn : ((i : Int) + 1).toNat = i + 1 := by omega
 have hb2 : ¬ (c = i + 1) := by omega
 have hb3 : (i : Int) ≤ (n : Int) + 1 := by omega
 have hb4 : ¬ (c = i) := by omega
 clear e1 e2 e3 e5
 go_enter FG, Body2.n22_ntmps ρ
 go_wp2_with (simp only [hov])
 go_region_law_o (refine step_copy_runI rfl _ _ (ρ.t 24) (ρ.t 24) rfl _ _ (by simp [Act.eval, Act.put]) (by simp [Act.eval, Act.put]) (hcp1 _ _ _) ?_)
 go_wp2_with (at_builtin; refine wpList_copy_runI _ rfl _ _ (ρ.t 24) (ρ.t 24) rfl _ _ rfl rfl (hcp2 _ (fun _ => rfl) (fun _ => rfl) _ _) ?_)
 go_ret
 first | exact ⟨rfl, rfl⟩ | exact ⟨rfl, by rw [hW1]⟩
set_option maxHeartbeats 4000000 in
set_option maxRecDepth 1000000 in
theorem ins_end_room (L : InsL P ρ sz bytes z) (b off n c vb voff vc : Nat) (vs : List Value) (w : World) (hroom : n + 1 ≤ c) (hn63 : n + 1 ≤ 9223372036854775807)
  (hvl : vs.length = sz) (hsp : ∀ j, j < sz → (w.cell? ⟨b, off + n * sz + j, none⟩).isSome = true) (hfz : ∀ j, j < sz → w.frozen? ⟨b, off + n * sz + j, none⟩ = false)
  (hvs : ∀ j v, vs[j]? = some v → w.cell? ⟨vb, voff + j, none⟩ = some v) (h1v : ∀ v ∈ vs, v.oneCell' = true) :
  Calls P (ρ.f 22) #[.slice (some ⟨b, off, none⟩) n c, .int .i64 n, .slice (some ⟨vb, voff, none⟩) 1 vc] w fun e w' =>
   e = .returned (.slice (some ⟨b, off, none⟩) (n + 1) c) ∧ w' = w.setCells b (off + n * sz) vs := by
 obtain ⟨i0, hi0, hz0, hzs, hzb⟩ := info_parts L.i9
 have t0 := L.t0; have a0 := L.a0; have z0 := L.z0; have v0 := L.v0; have t3 := L.t3; have a3 := L.a3; have z3 := L.z3; have v3 := L.v3; have t4 := L.t4; have a4 := L.a4; have z4 := L.z4; have v4 := L.v4; have t24 := L.t24; have a24 := L.a24; have z24 := L.z24; have v24 := L.v24
 have z9 := L.z9
 have u0 := run_underlying L.t0; have u3 := run_underlying L.t3; have u4 := run_underlying L.t4; have u24 := run_underlying L.t24
 have mixed := L.mixed
 have hsrc : Go.Src P i0.size (ρ.t 24) (.slice (some ⟨vb, voff, none⟩) 1 vc) 1 vs w := by
  rw [hzs]
  exact Go.Src.ofSlice w L.t24 ⟨vb, voff, none⟩ 1 vc vs (by omega) (fun j u hj => by rw [Addr.add_lit]; exact hvs j u hj) h1v
 obtain ⟨_, _, FG⟩ := L.f22
 go_enter FG, Body2.n22_ntmps ρ
 go_wp2_with (at_builtin; refine Go.wpList_append_room_src _ rfl _ _ (ρ.t 24) (ρ.t 24) rfl (ρ.t 9) i0 L.t24 hi0 b off n c rfl _ rfl 1 vs hsrc hroom (by rw [hvl, hzs]; exact hsp) (by rw [hvl, hzs]; exact hfz) ?_)
 go_ret
 exact ⟨rfl, rfl⟩
set_option maxHeartbeats 4000000 in
set_option maxRecDepth 1000000 in
theorem ins_end_grow (L : InsL P ρ sz bytes z) (base : Option Addr) (n c vb voff vc : Nat) (cs vs : List Value) (w : World) (hnc : n ≤ c) (hroom : c < n + 1) (hn63 : n + 1 ≤ 9223372036854775807) (hbig : (n + 1) * bytes ≤ 140737488355328)
  (hcl : cs.length = n * sz) (hvl : vs.length = sz) (hnil : base = none → n = 0)
  (hcs : ∀ a, base = some a → ∀ j v, cs[j]? = some v → w.cell? (a.add j) = some v)
  (hvs : ∀ j v, vs[j]? = some v → w.cell? ⟨vb, voff + j, none⟩ = some v) (h1v : ∀ v ∈ vs, v.oneCell' = true) :
  Calls P (ρ.f 22) #[.slice base n c, .int .i64 n, .slice (some ⟨vb, voff, none⟩) 1 vc] w fun e w' =>
   e = .returned (.slice (some ⟨w.heap.size, 0, none⟩) (n + 1) (grownCap w (n + 1) c (ρ.t 9))) ∧
   w' = w.drew.alloc (.cells ((cs ++ vs).toArray ++ Builtin.zeroCells z.cells (grownCap w (n + 1) c (ρ.t 9) - (n + 1))) (ρ.t 9)) := by
 obtain ⟨i0, hi0, hz0, hzs, hzb⟩ := info_parts L.i9
 have t0 := L.t0; have a0 := L.a0; have z0 := L.z0; have v0 := L.v0; have t3 := L.t3; have a3 := L.a3; have z3 := L.z3; have v3 := L.v3; have t4 := L.t4; have a4 := L.a4; have z4 := L.z4; have v4 := L.v4; have t24 := L.t24; have a24 := L.a24; have z24 := L.z24; have v24 := L.v24
 have z9 := L.z9
 have u0 := run_underlying L.t0; have u3 := run_underlying L.t3; have u4 := run_underlying L.t4; have u24 := run_underlying L.t24
 have mixed := L.mixed
 have hsrc : Go.Src P i0.size (ρ.t 24) (.slice (some ⟨vb, voff, none⟩) 1 vc) 1 vs w := by
  rw [hzs]
  exact Go.Src.ofSlice w L.t24 ⟨vb, voff, none⟩ 1 vc vs (by omega) (fun j u hj => by rw [Addr.add_lit]; exact hvs j u hj) h1v
 have hold : (Builtin.firstCells i0.size n (.slice base n c)).run P w.drew = .ok cs.toArray w.drew := by
  rw [hzs]
  cases base with
  | none =>
   have h0 := hnil rfl
   subst h0
   rw [List.length_eq_zero_iff.1 (show cs.length = 0 by rw [hcl]; exact Nat.zero_mul _)]
   exact run_firstCells_none w.drew sz 0 0 c
  | some a => exact run_firstCells_some w.drew sz n a n c cs (by omega) (fun j v hj => hcs a rfl j v hj)
 have hrun : ∀ ty, (Builtin.append_ #[ρ.t 24, ρ.t 24] ty #[.slice base n c, .slice (some ⟨vb, voff, none⟩) 1 vc]).run P w = _ := fun ty =>
  run_append_grow_src w (ρ.t 24) (ρ.t 24) ty (ρ.t 9) i0 _ L.t24 hi0 hz0 base n c cs hold _ 1 vs hsrc hroom (by omega) (by rw [hzb]; exact growslice_fits hroom hbig)
 generalize z.cells = zc at hrun ⊢
 obtain ⟨_, _, FG⟩ := L.f22
 go_enter FG, Body2.n22_ntmps ρ
 cases base with
 | none =>
  have h0 := hnil rfl
  subst h0
  go_wp2_with (at_builtin; refine Lib.wpList_append_run _ rfl _ _ _ _ rfl _ _ rfl rfl _ _ (hrun _) ?_)
  go_ret
  exact ⟨rfl, rfl⟩
 | some a =>
  obtain ⟨ab, ao, asp⟩ := a
  go_wp2_with (at_builtin; refine Lib.wpList_append_run _ rfl _ _ _ _ rfl _ _ rfl rfl _ _ (hrun _) ?_)
  all_goals (go_ret; exact ⟨rfl, rfl⟩)
set_option maxHeartbeats 4000000 in
set_option maxRecDepth 1000000 in
theorem ins_grow (L : InsL P ρ sz bytes z) (b off n c i vb voff vc : Nat) (cs vs : List Value) (w : World) (hi : i < n) (hnc : n ≤ c) (hroom : c < n + 1) (hn63 : n + 1 ≤ 9223372036854775807) (hbig : (n + 1) * bytes ≤ 140737488355328)
  (hcl : cs.length = n * sz) (hvl : vs.length = sz)
  (hcs : ∀ j v, cs[j]? = some v → w.cell? ⟨b, off + j, none⟩ = some v)
  (hvs : ∀ j v, vs[j]? = some v → w.cell? ⟨vb, voff + j, none⟩ = some v) (h1c : ∀ v ∈ cs, v.oneCell' = true) (h1v : ∀ v ∈ vs, v.oneCell' = true) :
  Calls P (ρ.f 22) #[.slice (some ⟨b, off, none⟩) n c, .int .i64 i, .slice (some ⟨vb, voff, none⟩) 1 vc] w fun e w' =>
   e = .returned (.slice (some ⟨w.heap.size, 0, none⟩) (n + 1) (grownCap w (n + 1) c (ρ.t 9))) ∧
   w' = (((w.alloc (.cells ((cs.take (i * sz)).toArray ++ Builtin.zeroCells z.cells (n + 1 - i) ++ Builtin.zeroCells z.cells (grownCap w (n + 1) c (ρ.t 9) - (n + 1))) (ρ.t 9))).drew.setCells w.heap.size (i * sz) vs).drew).setCells w.heap.size ((i + 1) * sz) (cs.drop (i * sz)) := by
 obtain ⟨i0, hi0, hz0, hzs, hzb⟩ := info_parts L.i9
 have hsz0 := ins_size L
 have hszp := L.hsz
 have t0 := L.t0; have a0 := L.a0; have z0 := L.z0; have v0 := L.v0; have t3 := L.t3; have a3 := L.a3; have z3 := L.z3; have v3 := L.v3; have t4 := L.t4; have a4 := L.a4; have z4 := L.z4; have v4 := L.v4; have t24 := L.t24; have a24 := L.a24; have z24 := L.z24; have v24 := L.v24
 have z9 := L.z9
 have u0 := run_underlying L.t0; have u3 := run_underlying L.t3; have u4 := run_underlying L.t4; have u24 := run_underlying L.t24
 have mixed := L.mixed
 have hz2 : ¬ ((i : Int) = (n : Int)) := by omega
 have hz3 : (c : Int) < (n : Int) + 1 := by omega
 have e1 : (i + 1) * sz = i * sz + sz := by rw [Nat.add_mul]; omega
 have e2 : (n + 1) * sz = n * sz + sz := by rw [Nat.add_mul]; omega
 have e3 : i * sz + (n - i) * sz = n * sz := by rw [← Nat.add_mul]; congr 1; omega
 have e4 : sz ≤ (n - i) * sz := by have := Nat.mul_le_mul_right sz (show 1 ≤ n - i by omega); omega
 have hbw : b < w.heap.size := block_lt_of_cell (hcs 0 _ (List.getElem?_eq_getElem (by omega)))
 have hvw : vb < w.heap.size := block_lt_of_cell (hvs 0 _ (List.getElem?_eq_getElem (by omega)))
 have hkk : (n : Int) + 1 - (i : Int) = ((n + 1 - i : Nat) : Int) := by omega
 have hik : i + (n + 1 - i) = n + 1 := by omega
 have hbe : bytes * (n + 1 - i) ≤ bytes * (n + 1) := Nat.mul_le_mul_left _ (by omega)
 have hbe' : bytes * (n + 1) = (n + 1) * bytes := Nat.mul_comm _ _
 have hbe2 : (n + 1 - i) * bytes = bytes * (n + 1 - i) := Nat.mul_comm _ _
 have hold : (Builtin.firstCells i0.size i (.slice (some ⟨b, off, none⟩) i c)).run P w.drew = .ok (cs.take (i * sz)).toArray w.drew := by
  rw [hzs]
  exact run_firstCells_some w.drew sz i ⟨b, off, none⟩ i c (cs.take (i * sz)) (by rw [List.length_take]; omega) (fun j v hj => by
   rw [Addr.add_lit]
   rw [List.getElem?_take] at hj
   split at hj
   ·exact hcs j v hj
   ·cases hj)
 have hrz : ∀ ty, (Builtin.append_ #[ρ.t 24, ρ.t 3] ty #[.slice (some ⟨b, off, none⟩) i c, .int .i64 ((n : Int) + 1 - (i : Int))]).run P w =
   .ok (.slice (some ⟨w.heap.size, 0, none⟩) (n + 1) (grownCap w (n + 1) c (ρ.t 9))) (w.drew.alloc (.cells ((cs.take (i * sz)).toArray ++ Builtin.zeroCells z.cells (n + 1 - i) ++ Builtin.zeroCells z.cells (grownCap w (n + 1) c (ρ.t 9) - (n + 1))) (ρ.t 9))) := fun ty => by
  have h := Lib.run_append_grow_zeros w (ρ.t 24) (ρ.t 3) ty (ρ.t 9) i0 _ .i64 .i64 L.t24 L.t3 hi0 hz0 (some ⟨b, off, none⟩) i c (cs.take (i * sz)) hold (n + 1 - i) (by omega) (by omega) (by omega) (by omega) (by rw [hzb]; omega) (by rw [hzb, hik]; exact growslice_fits hroom hbig)
  rw [hik] at h
  rw [hkk]
  exact h
 obtain ⟨G, hG⟩ : ∃ G, G = grownCap w (n + 1) c (ρ.t 9) := ⟨_, rfl⟩
 obtain ⟨ROW, hROW⟩ : ∃ ROW : Array Value, ROW = (cs.take (i * sz)).toArray ++ Builtin.zeroCells z.cells (n + 1 - i) ++ Builtin.zeroCells z.cells (G - (n + 1)) := ⟨_, rfl⟩
 rw [← hG] at hrz ⊢
 rw [← hROW] at hrz ⊢
 have hRl : (n + 1) * sz ≤ ROW.size := by
  have hzc : ∀ k, (Builtin.zeroCells z.cells k).size = k * sz := fun k => by simp [Builtin.zeroCells, L.hzs]
  rw [hROW]
  simp only [Array.size_append, List.size_toArray, List.length_take, hzc]
  have : i * sz + (n + 1 - i) * sz = (n + 1) * sz := by rw [← Nat.add_mul]; congr 1
  omega
 obtain ⟨W1, hW1⟩ : ∃ W1, W1 = w.drew.alloc (.cells ROW (ρ.t 9)) := ⟨_, rfl⟩
 rw [← hW1] at hrz
 have hN : ∀ j, j < (n + 1) * sz → (W1.cell? ⟨w.heap.size, j, none⟩).isSome = true := fun j hj => by
  rw [hW1, World.cell?_alloc_at (w := w.drew) ROW _ w.heap.size j rfl, Array.getElem?_eq_getElem (by omega)]; rfl
 have hNf : ∀ j, W1.frozen? ⟨w.heap.size, j, none⟩ = false := fun j => by rw [hW1]; exact World.frozen?_alloc_at (w := w.drew) ROW _ w.heap.size j rfl
 have hOb : ∀ j v, w.cell? ⟨b, j, none⟩ = some v → W1.cell? ⟨b, j, none⟩ = some v := fun j v h => by rw [hW1, World.cell?_alloc_past (w := w.drew) _ b j hbw]; exact h
 have hOv : ∀ j v, w.cell? ⟨vb, j, none⟩ = some v → W1.cell? ⟨vb, j, none⟩ = some v := fun j v h => by rw [hW1, World.cell?_alloc_past (w := w.drew) _ vb j hvw]; exact h
 have hcpA : ∀ (W : World), (∀ x, W.cell? x = W1.cell? x) → (∀ x, W.frozen? x = W1.frozen? x) → ∀ ty dc, (Builtin.copy_ #[ρ.t 24, ρ.t 24] ty #[.slice (some ⟨w.heap.size, i * sz, none⟩) (n + 1 - i) dc, .slice (some ⟨vb, voff, none⟩) 1 vc]).run P W = .ok (goInt ((1 : Nat) : Int)) (W.setCells w.heap.size (i * sz) vs) := fun W hWc hWf ty dc =>
  run_copy_rows W _ _ ty (ρ.t 9) w.heap.size (i * sz) (n + 1 - i) dc ⟨vb, voff, none⟩ 1 vc sz 1 vs L.t24 hsz0 (by simp only [Nat.min_def]; split <;> omega) (by omega)
   (fun j v hj => by rw [Addr.add_lit, hWc]; exact hOv _ v (hvs j v hj))
   (fun j hj => by rw [hWc]; exact hN _ (by omega)) (fun j hj => by rw [hWf]; exact hNf _) h1v
 have hGn : n + 1 ≤ G := by rw [hG]; exact grownCap_ge w _ _ _
 have hG63 : G ≤ 9223372036854775807 := by
  have := grownCap_le_maxLen w (n + 1) c (ρ.t 9) (by unfold maxLen; omega)
  rw [← hG] at this
  unfold maxLen at this
  omega
 have hGi : ¬ (G = i) := by omega
 have hGim : ¬ (G = i + 1) := by omega
 have hci : ¬ (c = i) := by omega
 have hbN : b ≠ w.heap.size := by omega
 have hdl : (cs.drop (i * sz)).length = (n - i) * sz := by rw [List.length_drop, hcl]; omega
 have hcpB : ∀ (W : World), (∀ x, W.cell? x = (W1.setCells w.heap.size (i * sz) vs).cell? x) → (∀ x, W.frozen? x = (W1.setCells w.heap.size (i * sz) vs).frozen? x) → ∀ ty dc sc, (Builtin.copy_ #[ρ.t 24, ρ.t 24] ty #[.slice (some ⟨w.heap.size, (i + 1) * sz, none⟩) (n - i) dc, .slice (some ⟨b, off + i * sz, none⟩) (n - i) sc]).run P W = .ok (goInt ((n - i : Nat) : Int)) (W.setCells w.heap.size ((i + 1) * sz) (cs.drop (i * sz))) := fun W hWc hWf ty dc sc =>
  run_copy_rows W _ _ ty (ρ.t 9) w.heap.size ((i + 1) * sz) (n - i) dc ⟨b, off + i * sz, none⟩ (n - i) sc sz (n - i) (cs.drop (i * sz)) L.t24 hsz0 (by simp only [Nat.min_def]; split <;> omega) hdl
   (fun j v hj => by
    rw [Addr.add_lit, hWc, World.cell?_setCells_out _ _ _ _ _ (fun h _ => absurd h hbN), Nat.add_assoc]
    exact hOb _ v (hcs (i * sz + j) v (by rwa [List.getElem?_drop] at hj)))
   (fun j hj => by rw [hWc]; exact World.isSome_setCells _ _ _ _ _ (hN _ (by omega)))
   (fun j hj => by rw [hWf, World.frozen?_setCells]; exact hNf _) (fun v hv => h1c v (List.mem_of_mem_drop hv))
 subst hW1
 have hE1 : ∀ x, ((w.alloc (.cells ROW (ρ.t 9))).drew).cell? x = (w.drew.alloc (.cells ROW (ρ.t 9))).cell? x := fun x => rfl
 have hE2 : ∀ x, ((w.alloc (.cells ROW (ρ.t 9))).drew).frozen? x = (w.drew.alloc (.cells ROW (ρ.t 9))).frozen? x := fun x => rfl
 have hF1 : ∀ x, (((w.alloc (.cells ROW (ρ.t 9))).drew.setCells w.heap.size (i * sz) vs).drew).cell? x = ((w.drew.alloc (.cells ROW (ρ.t 9))).setCells w.heap.size (i * sz) vs).cell? x := fun x => rfl
 have hF2 : ∀ x, (((w.alloc (.cells ROW (ρ.t 9))).drew.setCells w.heap.size (i * sz) vs).drew).frozen? x = ((w.drew.alloc (.cells ROW (ρ.t 9))).setCells w.heap.size (i * sz) vs).frozen? x := fun x => rfl
 have hw1 : IntKind.i64.wrap ((i : Int) + 1) = (i : Int) + 1 := by rw [IntKind.wrap_i64]; omega
 have hb1 : (0 : Int) ≤ (i : Int) + 1 := by omega
 have hin : i ≤ n := by omega
 have htn : ((i : Int) + 1).toNat = i + 1 := by omega
 have hb3 : (i : Int) ≤ (n : Int) := by omega
 clear hkk hik hold hROW hG hRl e1 e2 e3 e4 hbe hbe' hbe2
 obtain ⟨_, _, FG⟩ := L.f22
 go_enter FG, Body2.n22_ntmps ρ
 go_wp2_with (first
  | (at_builtin; refine Lib.wpList_append_run _ rfl _ _ _ _ rfl _ _ rfl rfl _ _ (hrz _) ?_)
  | (at_builtin; refine wpList_copy_runI _ rfl _ _ (ρ.t 24) (ρ.t 24) rfl _ _ rfl rfl (hcpA _ hE1 hE2 _ _) ?_)
  | (at_builtin; refine wpList_copy_runI _ rfl _ _ (ρ.t 24) (ρ.t 24) rfl _ _ rfl rfl (hcpB _ (fun _ => rfl) (fun _ => rfl) _ _ _) ?_))
 go_region_law_o (refine step_copy_runI rfl _ _ (ρ.t 24) (ρ.t 24) rfl (.slice (some ⟨w.heap.size, (i + 1) * sz, none⟩) (n - i) (G - (i + 1))) (.slice (some ⟨b, off + i * sz, none⟩) (n - i) (c - i)) (by simp [Act.eval, Act.put]) (by simp [Act.eval, Act.put]) (hcpB _ hF1 hF2 (ρ.t 3) (G - (i + 1)) (c - i)) ?_)
 go_wp2
 go_ret
 exact ⟨rfl, rfl⟩
end Go.Proofs.YtoomonfpedjgoaaGreatDoor.Ab

set_option linter.unusedSimpArgs false
set_option linter.unusedVariables false
namespace Go.Proofs.YtoomonfpedjgoaaGreatDoor.Ab
open Go.Proofs Go.Shelf Go.RowKit Go.Lib
variable {P : Program} {ρ : Ren} {sz bytes : Nat} {z : Value}
theorem ins_fin {w w' : World} {Fz : PSet} {k i : Nat} {rows : List (List D)} {row : List D} {T T2 : Nat → PSet} {S0 S2 R : PSet} {B off cap : Nat} (cs vs : List Value)
  (hrow : ∀ r, r ∈ rows → r.length = sz) (hrl : row.length = sz) (hi : i ≤ rows.length)
  (hcs : ∀ m d, rows.flatten[m]? = some d → ∃ u, cs[m]? = some u ∧ Own w Fz k u d (T m)) (hcl : cs.length = rows.length * sz)
  (hvs : ∀ (m : Nat) d, row[m]? = some d → ∃ u, vs[m]? = some u ∧ Own w Fz k u d (T2 m)) (hvl : vs.length = sz)
  (hdT : Disj rows.flatten.length T) (hdT2 : Disj row.length T2) (hTS : ∀ m, m < rows.flatten.length → ∀ x y, T m x y → S0 x y ∧ ¬ R x y) (hT2S : ∀ m, m < row.length → ∀ x y, T2 m x y → S2 x y)
  (hd02 : ∀ x y, S0 x y → ¬ S2 x y) (hRS : ∀ x y, R x y → S0 x y) (hSlt : ∀ x y, S0 x y ∨ S2 x y → x < w.heap.size) (hSF : ∀ x y, S0 x y ∨ S2 x y → ¬ Fz x y) (hFz : ∀ x y, Fz x y → x < w.heap.size)
  (hcap : rows.length + 1 ≤ cap) (hroom : Room w' B off (cap * sz))
  (hns : ∀ m u, (cs.take (i * sz) ++ (vs ++ cs.drop (i * sz)))[m]? = some u → w'.cell? (at_ B (off + m)) = some u)
  (hkc : ∀ x y, x < w.heap.size → ¬ R x y → w'.cell? (at_ x y) = w.cell? (at_ x y) ∧ w'.frz? (at_ x y) = w.frz? (at_ x y))
  (hBR : ∀ x y, rng B off (cap * sz) x y → R x y ∨ w.heap.size ≤ x) :
  ∃ S' : PSet, Own w' Fz (k + 1) (.slice (some (at_ B off)) (rows.length + 1) cap) (.slc sz (rows.take i ++ row :: rows.drop i)) S' ∧ ∀ x y, S' x y → S0 x y ∨ S2 x y ∨ rng B off (cap * sz) x y := by
 have hfl := flat_len hrow
 have e1 : (i + 1) * sz = i * sz + sz := by rw [Nat.add_mul]; omega
 have e2 : i * sz ≤ rows.length * sz := Nat.mul_le_mul_right _ hi
 have hfa : (rows.take i ++ row :: rows.drop i).flatten = rows.flatten.take (i * sz) ++ (row ++ rows.flatten.drop (i * sz)) := by
  rw [List.flatten_append, List.flatten_cons, flat_dropN hrow hi, flat_take hrow i hi]
 have hln : (rows.take i ++ row :: rows.drop i).length = rows.length + 1 := by simp; omega
 have l1 : (rows.flatten.take (i * sz)).length = i * sz := by rw [List.length_take]; omega
 have l2 : (cs.take (i * sz)).length = i * sz := by rw [List.length_take]; omega
 obtain ⟨T', hT'⟩ : ∃ T' : Nat → PSet, T' = fun m => if m < i * sz then T m else if m < i * sz + sz then T2 (m - i * sz) else T (m - sz) := ⟨_, rfl⟩
 have a1 : ∀ m, m < i * sz → T' m = T m := fun m h => by rw [hT']; exact if_pos h
 have a2 : ∀ m, ¬ m < i * sz → m < i * sz + sz → T' m = T2 (m - i * sz) := fun m h h' => by rw [hT']; show (if _ then _ else _) = _; rw [if_neg h, if_pos h']
 have a3 : ∀ m, ¬ m < i * sz + sz → T' m = T (m - sz) := fun m h => by rw [hT']; show (if _ then _ else _) = _; rw [if_neg (by omega), if_neg h]
 have hlen : (rows.take i ++ row :: rows.drop i).flatten.length = rows.length * sz + sz := by rw [hfa]; simp only [List.length_append, l1, hrl, List.length_drop, hfl]; omega
 have hTw : ∀ m, m < rows.length * sz + sz → ∀ x y, T' m x y → (S0 x y ∨ S2 x y) ∧ ¬ R x y := by
  intro m hm x y h
  by_cases c1 : m < i * sz
  ·rw [a1 m c1] at h
   have := hTS m (by omega) x y h
   exact ⟨.inl this.1, this.2⟩
  ·by_cases c2 : m < i * sz + sz
   ·rw [a2 m c1 c2] at h
    have := hT2S _ (by omega) x y h
    exact ⟨.inr this, fun hr => hd02 x y (hRS x y hr) this⟩
   ·rw [a3 m c2] at h
    have := hTS _ (by omega) x y h
    exact ⟨.inl this.1, this.2⟩
 have hcell : ∀ (m : Nat) d, (rows.take i ++ row :: rows.drop i).flatten[m]? = some d → ∃ u, w'.cell? (at_ B (off + m)) = some u ∧ Own w Fz k u d (T' m) := by
  intro m d hd
  rw [hfa] at hd
  by_cases c1 : m < i * sz
  ·rw [List.getElem?_append_left (by omega), List.getElem?_take_of_lt c1] at hd
   obtain ⟨u, hu, ho⟩ := hcs m d hd
   exact ⟨u, hns m u (by rw [List.getElem?_append_left (by omega), List.getElem?_take_of_lt c1]; exact hu), by rw [a1 m c1]; exact ho⟩
  ·rw [List.getElem?_append_right (by omega), l1] at hd
   by_cases c2 : m < i * sz + sz
   ·rw [List.getElem?_append_left (by omega)] at hd
    obtain ⟨u, hu, ho⟩ := hvs _ d hd
    exact ⟨u, hns m u (by rw [List.getElem?_append_right (by omega), l2, List.getElem?_append_left (by omega)]; exact hu), by rw [a2 m c1 c2]; exact ho⟩
   ·rw [List.getElem?_append_right (by omega), hrl, List.getElem?_drop] at hd
    have em : i * sz + (m - i * sz - sz) = m - sz := by omega
    rw [em] at hd
    obtain ⟨u, hu, ho⟩ := hcs _ d hd
    exact ⟨u, hns m u (by rw [List.getElem?_append_right (by omega), l2, List.getElem?_append_right (by omega), hvl, List.getElem?_drop, em]; exact hu), by rw [a3 m c2]; exact ho⟩
 refine ⟨fun x y => rng B off (cap * sz) x y ∨ ∃ m, m < (rows.take i ++ row :: rows.drop i).flatten.length ∧ T' m x y, ?_, ?_⟩
 ·rw [← hln]
  refine .inr ⟨B, off, cap, T', rfl, by omega, hroom, ?_, ?_, ?_, ?_, fun x y => Iff.rfl⟩
  ·intro r hr
   rcases List.mem_append.1 hr with h | h
   ·exact hrow r (List.mem_of_mem_take h)
   ·rcases List.mem_cons.1 h with rfl | h
    ·exact hrl
    ·exact hrow r (List.mem_of_mem_drop h)
  ·intro m d hd
   have hm := mem_len hd
   obtain ⟨u, hu, ho⟩ := hcell m d hd
   exact ⟨u, hu, ho.mono (fun _ _ h => h) (fun x y h => hkc x y (hFz x y h) fun hr => hSF x y (.inl (hRS x y hr)) h) k (fun x y h => by
    obtain ⟨q1, q2⟩ := hTw m (by omega) x y h
    exact hkc x y (hSlt x y q1) q2)⟩
  ·intro m n hm hn hne x y h1 h2
   rw [hlen] at hm hn
   have key : ∀ m n, m < rows.length * sz + sz → n < rows.length * sz + sz → m < n → T' m x y → T' n x y → False := by
    intro m n hm hn hmn h1 h2
    by_cases c1 : m < i * sz
    ·rw [a1 m c1] at h1
     by_cases d1 : n < i * sz
     ·rw [a1 n d1] at h2; exact hdT m n (by omega) (by omega) (by omega) x y h1 h2
     ·by_cases d2 : n < i * sz + sz
      ·rw [a2 n d1 d2] at h2; exact hd02 x y (hTS m (by omega) x y h1).1 (hT2S _ (by omega) x y h2)
      ·rw [a3 n d2] at h2; exact hdT m _ (by omega) (by omega) (by omega) x y h1 h2
    ·by_cases c2 : m < i * sz + sz
     ·rw [a2 m c1 c2] at h1
      by_cases d2 : n < i * sz + sz
      ·rw [a2 n (by omega) d2] at h2; exact hdT2 _ _ (by omega) (by omega) (by omega) x y h1 h2
      ·rw [a3 n d2] at h2; exact hd02 x y (hTS _ (by omega) x y h2).1 (hT2S _ (by omega) x y h1)
     ·rw [a3 m c2] at h1
      rw [a3 n (by omega)] at h2
      exact hdT _ _ (by omega) (by omega) (by omega) x y h1 h2
   rcases Nat.lt_or_gt_of_ne hne with h | h
   ·exact key m n hm hn h h1 h2
   ·exact key n m hn hm h h2 h1
  ·intro m hm x y hr ht
   obtain ⟨q1, q2⟩ := hTw m (by omega) x y ht
   rcases hBR x y hr with h | h
   ·exact q2 h
   ·have := hSlt x y q1
    omega
 ·rintro x y (h | ⟨m, hm, h⟩)
  ·exact .inr (.inr h)
  ·rcases (hTw m (by omega) x y h).1 with h | h
   ·exact .inl h
   ·exact .inr (.inl h)
end Go.Proofs.YtoomonfpedjgoaaGreatDoor.Ab

set_option linter.unusedSimpArgs false
set_option linter.unusedVariables false
namespace Go.Proofs.YtoomonfpedjgoaaGreatDoor.Ab
open Go.Proofs Go.Shelf Go.RowKit Go.Lib
variable {P : Program} {ρ : Ren} {sz bytes : Nat} {z : Value}
def rowAt (w : World) (b off n : Nat) : List Value := (List.range n).map fun t => (w.cell? (at_ b (off + t))).getD Go.undef
theorem rowAt_len (w : World) (b off n : Nat) : (rowAt w b off n).length = n := by simp [rowAt]
theorem rowAt_get {w : World} {b off n m : Nat} {u : Value} (hm : m < n) (h : w.cell? (at_ b (off + m)) = some u) : (rowAt w b off n)[m]? = some u := by simp [rowAt, hm, h]
theorem rowAt_cell {w : World} {b off n : Nat} (hr : ∀ o, o < n → ∃ u, w.cell? (at_ b (off + o)) = some u) {j : Nat} {v : Value} (h : (rowAt w b off n)[j]? = some v) : w.cell? ⟨b, off + j, none⟩ = some v := by
 have hj := (List.getElem?_eq_some_iff.1 h).1
 rw [rowAt_len] at hj
 obtain ⟨u, hu⟩ := hr j hj
 rw [rowAt_get hj hu] at h
 cases h
 exact hu
theorem ins_some {w : World} {b o : Nat} {vs : List Value} (h : ∀ t, t < vs.length → (w.cell? (at_ b (o + t))).isSome = true) {t : Nat} {u : Value} (hu : vs[t]? = some u) : (w.setCells b o vs).cell? (at_ b (o + t)) = some u := by
 obtain ⟨ht, rfl⟩ := List.getElem?_eq_some_iff.1 hu
 exact World.cell?_setCells_in b vs _ w h t ht
theorem ins_out {w : World} {b o y : Nat} {vs : List Value} (h : y < o ∨ o + vs.length ≤ y) : (w.setCells b o vs).cell? (at_ b y) = w.cell? (at_ b y) := World.cell?_setCells_out b vs _ _ _ (fun _ _ => h)
theorem ins_heap {w : World} {b o x : Nat} {vs : List Value} (h : x ≠ b) : (w.setCells b o vs).heap[x]? = w.heap[x]? := by rw [setCells_many]; exact setMany_heap b h _ _ _
theorem ins_frz {w : World} {b o : Nat} {vs : List Value} (a : Addr) : (w.setCells b o vs).frz? a = w.frz? a := by rw [setCells_many]; exact setMany_frozen b a vs w o
theorem ins_side {w : World} {b o : Nat} {vs : List Value} : (w.setCells b o vs).os = w.os ∧ (w.setCells b o vs).output = w.output := by rw [setCells_many]; exact setMany_side b vs w o
theorem ins_hsize {w : World} {b o : Nat} {vs : List Value} : (w.setCells b o vs).heap.size = w.heap.size := by rw [setCells_many]; exact setMany_size b vs w o
set_option maxHeartbeats 1000000 in
theorem insert_valid {G : GV} (L : InsL P ρ sz bytes z) (hgo : Goes P (ρ.f 22)) {k : Nat} {rows : List (List D)} {row : List D} (i : Nat) (hi : i ≤ rows.length) (hn63 : rows.length + 1 ≤ 9223372036854775807) (hbig : (rows.length + 1) * bytes ≤ 140737488355328) :
  Valid P G (ρ.f 22) [.own k sz rows, .d (.int .i64 i), .own k sz [row]] (.own k sz (rows.take i ++ row :: rows.drop i)) [none, none, none] := by
 refine ⟨hgo, fun w args Fz U hG hFz hRC hap => ?_⟩
 obtain ⟨hl, hRC, hdis⟩ := hRC
 have h0 := hRC 0 _ rfl
 have h1 := hRC 1 _ rfl
 have h2 := hRC 2 _ rfl
 have hap0 := hap 0 (by simp)
 have hap2 := hap 2 (by simp)
 have hd02 := hdis 0 2 (by simp) (by simp) (by omega)
 have hU0 : ∀ x y, U 0 x y → ∃ i, i < 3 ∧ U i x y := fun x y h => ⟨0, by omega, h⟩
 have hU2 : ∀ x y, U 2 x y → ∃ i, i < 3 ∧ U i x y := fun x y h => ⟨2, by omega, h⟩
 have hargs : args = #[args.getD 0 Go.undef, args.getD 1 Go.undef, args.getD 2 Go.undef] := args_eq (l := [args.getD 0 Go.undef, args.getD 1 Go.undef, args.getD 2 Go.undef]) hl fun q u hu => by
  match q, hu with
  | 0, hu => cases hu; rfl
  | 1, hu => cases hu; rfl
  | 2, hu => cases hu; rfl
 generalize args.getD 0 Go.undef = v0 at *
 generalize args.getD 1 Go.undef = v1 at *
 generalize args.getD 2 Go.undef = v2 at *
 generalize U 0 = S0 at h0 hap0 hd02 hU0
 generalize U 2 = S2 at h2 hap2 hd02 hU2
 cases h1 with | d _ _ _ h1 _ => ?_
 have e1 := shr_int h1
 subst e1
 cases h0 with | own _ _ _ _ _ ho => ?_
 cases h2 with | own _ _ _ _ _ hv => ?_
 have hlt0 := ho.lt (k + 1)
 have hlt2 := hv.lt (k + 1)
 rcases hv with ⟨_, hc, _⟩ | ⟨vb, voff, vc, T2, rfl, g1, g2, g3, g4, g5, g6, g7⟩
 ·cases hc
 have hrl : row.length = sz := g3 row (by simp)
 have hszp := L.hsz
 have hvc : 1 * sz ≤ vc * sz := Nat.mul_le_mul_right _ (by simpa using g1)
 simp only [List.flatten_cons, List.flatten_nil, List.append_nil] at g4 g5 g6 g7
 have hvr : ∀ o, o < sz → ∃ u, w.cell? (at_ vb (voff + o)) = some u := fun o ho => (g2 o (by omega)).1
 have hvsL := rowAt_len w vb voff sz
 have hvsC : ∀ j v, (rowAt w vb voff sz)[j]? = some v → w.cell? ⟨vb, voff + j, none⟩ = some v := fun j v h => rowAt_cell hvr h
 have hvsO : ∀ (m : Nat) d, row[m]? = some d → ∃ u, (rowAt w vb voff sz)[m]? = some u ∧ Own w Fz k u d (T2 m) := fun m d hd => by
  obtain ⟨u, hu, ho⟩ := g4 m d hd
  exact ⟨u, rowAt_get (by have := (List.getElem?_eq_some_iff.1 hd).1; omega) hu, ho⟩
 have hone : ∀ v ∈ rowAt w vb voff sz, v.oneCell' = true := fun v hv => by
  obtain ⟨m, hm⟩ := List.getElem?_of_mem hv
  have hm2 := (List.getElem?_eq_some_iff.1 hm).1
  obtain ⟨u, hu, ho⟩ := hvsO m _ (List.getElem?_eq_getElem (by omega))
  rw [hu] at hm; cases hm
  exact ho.one
 have hvb : vb < w.heap.size := cell_lt (hvr 0 hszp).choose_spec
 have hT2S : ∀ m, m < row.length → ∀ x y, T2 m x y → S2 x y := fun m hm x y h => (g7 x y).2 (.inr ⟨m, hm, h⟩)
 generalize rowAt w vb voff sz = vs at *
 have fin : ∀ (R : PSet) (cs : List Value) (T : Nat → PSet) (e : Ending) (w' : World) (B off cap : Nat), (∀ r, r ∈ rows → r.length = sz) →
   (∀ m d, rows.flatten[m]? = some d → ∃ u, cs[m]? = some u ∧ Own w Fz k u d (T m)) → cs.length = rows.length * sz → Disj rows.flatten.length T → (∀ m, m < rows.flatten.length → ∀ x y, T m x y → S0 x y ∧ ¬ R x y) → (∀ x y, R x y → S0 x y) →
   e = .returned (.slice (some (at_ B off)) (rows.length + 1) cap) → (w'.os = w.os ∧ w'.output = w.output) → w.heap.size ≤ w'.heap.size → rows.length + 1 ≤ cap → Room w' B off (cap * sz) →
   (∀ m u, (cs.take (i * sz) ++ (vs ++ cs.drop (i * sz)))[m]? = some u → w'.cell? (at_ B (off + m)) = some u) →
   (∀ x y, x < w.heap.size → ¬ R x y → w'.cell? (at_ x y) = w.cell? (at_ x y) ∧ w'.frz? (at_ x y) = w.frz? (at_ x y)) → (∀ x, x < w.heap.size → (∀ y, ¬ R x y) → w'.heap[x]? = w.heap[x]?) →
   (∀ x y, rng B off (cap * sz) x y → R x y ∨ w.heap.size ≤ x) →
   ∃ v' Fz' U', e = .returned v' ∧ Post w w' Fz Fz' (fun x y => ∃ i, i < 3 ∧ U i x y) args v' (.own k sz (rows.take i ++ row :: rows.drop i)) [none, none, none] U' := by
  intro R cs T e w' B off cap hrow hcs hcl hdT hTS hRS he hside hsize hcap hroom hns hkc hkb hBR
  obtain ⟨S', hown, hS'⟩ := ins_fin (R := R) cs vs hrow hrl hi hcs hcl hvsO hvsL hdT g5 hTS hT2S hd02 hRS (fun x y h => h.elim (hlt0 x y) (hlt2 x y)) (fun x y h => h.elim (hap0 x y) (hap2 x y)) hFz hcap hroom hns hkc hBR
  have hS2 : ∀ x y, S' x y → (S0 x y ∨ S2 x y) ∨ (rng B off (cap * sz) x y ∧ w.heap.size ≤ x) := fun x y h => by
   rcases hS' x y h with h | h | h
   ·exact .inl (.inl h)
   ·exact .inl (.inr h)
   ·rcases hBR x y h with h' | h'
    ·exact .inl (.inl (hRS x y h'))
    ·exact .inr ⟨h, h'⟩
  refine ⟨_, Fz, fun i => if i = 0 then S' else fun _ _ => False, he, hside, hsize, fun x hx hno => hkb x hx fun y hr => hno y (hU0 x y (hRS x y hr)), fun x y hx hno => hkc x y hx fun hr => hno (hU0 x y (hRS x y hr)), fun _ _ h => h, fun x y h => Nat.lt_of_lt_of_le (hFz x y h) hsize, fun _ _ h => .inl h, .own _ _ _ _ _ hown, ?_, ?_, ?_⟩
  ·intro m c hm
   match m, hm with
   | 0, hm => cases hm
   | 1, hm => cases hm
   | 2, hm => cases hm
   | m + 3, hm => simp at hm
  ·intro a b hab x y ha hb
   by_cases h0 : a = 0
   ·subst h0
    rw [if_neg (fun h => hab h.symm)] at hb
    exact hb
   ·rw [if_neg h0] at ha
    exact ha
  ·intro a x y ha
   by_cases h0 : a = 0
   ·rw [if_pos h0] at ha
    rcases hS2 x y ha with h | ⟨h, h'⟩
    ·refine ⟨.inl (h.elim (hU0 x y) (hU2 x y)), fun hf => h.elim (hap0 x y) (hap2 x y) hf, Nat.lt_of_lt_of_le (h.elim (hlt0 x y) (hlt2 x y)) hsize⟩
    ·obtain ⟨rfl, h1, h2⟩ := h
     refine ⟨.inr h', fun hf => by have := hFz _ _ hf; omega, ?_⟩
     obtain ⟨u, hu⟩ := (hroom (y - off) (by omega)).1
     exact cell_lt hu
   ·rw [if_neg h0] at ha
    exact ha.elim
 have hzc : ∀ q, (Builtin.zeroCells z.cells q).size = q * sz := fun q => by simp [Builtin.zeroCells, L.hzs]
 have fresh : ∀ (cs : List Value) (T : Nat → PSet) (e : Ending) (w' : World) (cur : Array Value) (g : Nat), (∀ r, r ∈ rows → r.length = sz) →
   (∀ m d, rows.flatten[m]? = some d → ∃ u, cs[m]? = some u ∧ Own w Fz k u d (T m)) → cs.length = rows.length * sz → Disj rows.flatten.length T → (∀ m, m < rows.flatten.length → ∀ x y, T m x y → S0 x y) →
   e = .returned (.slice (some ⟨w.heap.size, 0, none⟩) (rows.length + 1) g) → (w'.os = w.os ∧ w'.output = w.output) → w'.heap.size = w.heap.size + 1 → rows.length + 1 ≤ g → (∀ o, o < g * sz → ∃ u, w'.cell? (at_ w.heap.size o) = some u) → (∀ o, w'.frz? (at_ w.heap.size o) = false) →
   (∀ m u, (cs.take (i * sz) ++ (vs ++ cs.drop (i * sz)))[m]? = some u → w'.cell? (at_ w.heap.size m) = some u) → (∀ x, x < w.heap.size → w'.heap[x]? = w.heap[x]?) →
   ∃ v' Fz' U', e = .returned v' ∧ Post w w' Fz Fz' (fun x y => ∃ i, i < 3 ∧ U i x y) args v' (.own k sz (rows.take i ++ row :: rows.drop i)) [none, none, none] U' := by
  intro cs T e w' cur g hrow hcs hcl hdT hTS he hside hsize hg hcells hf hns hold
  exact fin (fun _ _ => False) cs T e w' w.heap.size 0 g hrow hcs hcl hdT (fun m hm x y h => ⟨hTS m hm x y h, id⟩) (fun _ _ h => h.elim) he hside (by omega) hg (fun o ho => by rw [Nat.zero_add]; exact ⟨hcells o ho, hf o⟩) (fun m u h => by rw [Nat.zero_add]; exact hns m u h)
   (fun x y hx _ => keep_of_heap (hold x hx) y) (fun x hx _ => hold x hx) (fun x y h => .inr (by obtain ⟨rfl, _⟩ := h; exact Nat.le_refl _))
 have gr0 : ∀ c, rows.length + 1 ≤ grownCap w (rows.length + 1) c (ρ.t 9) := fun c => grownCap_ge w _ _ _
 have newEnd : ∀ (cs : List Value) (g : Nat), i = rows.length → cs.length = rows.length * sz → rows.length + 1 ≤ g → ∀ w', w' = w.drew.alloc (.cells ((cs ++ vs).toArray ++ Builtin.zeroCells z.cells (g - (rows.length + 1))) (ρ.t 9)) →
   (w'.os = w.os ∧ w'.output = w.output) ∧ w'.heap.size = w.heap.size + 1 ∧ (∀ o, o < g * sz → ∃ u, w'.cell? (at_ w.heap.size o) = some u) ∧ (∀ o, w'.frz? (at_ w.heap.size o) = false) ∧
   (∀ m u, (cs.take (i * sz) ++ (vs ++ cs.drop (i * sz)))[m]? = some u → w'.cell? (at_ w.heap.size m) = some u) ∧ (∀ x, x < w.heap.size → w'.heap[x]? = w.heap[x]?) := by
  intro cs g hin hcl hg w' hw'
  obtain ⟨ROW, hROW⟩ : ∃ ROW, ROW = (cs ++ vs).toArray ++ Builtin.zeroCells z.cells (g - (rows.length + 1)) := ⟨_, rfl⟩
  rw [← hROW] at hw'
  have hsz : ROW.size = g * sz := by
   rw [hROW]
   simp only [Array.size_append, List.size_toArray, List.length_append, hzc, hcl, hvsL]
   have : (rows.length + 1) * sz + (g - (rows.length + 1)) * sz = g * sz := by rw [← Nat.add_mul]; congr 1; omega
   rw [Nat.add_mul] at this
   omega
  have hnew : w'.heap[w.heap.size]? = some (.cells ROW (ρ.t 9) (0, 0)) := by rw [hw']; exact heap_alloc_new w.drew _
  have hc : ∀ o, w'.cell? (at_ w.heap.size o) = ROW[o]? := fun o => by simp [World.cell?, hnew]
  refine ⟨by rw [hw']; exact ⟨rfl, rfl⟩, by rw [hw']; simp, fun o ho => ⟨ROW[o]'(by omega), by rw [hc]; exact Array.getElem?_eq_getElem (by omega)⟩, fun o => frz_cells (a := at_ w.heap.size o) hnew rfl, fun m u hu => ?_, fun x hx => by rw [hw']; exact heap_alloc_old w.drew _ hx⟩
  rw [hc, hROW]
  rw [List.take_of_length_le (by rw [hin]; omega), List.drop_eq_nil_of_le (by rw [hin]; omega), List.append_nil] at hu
  have hm := (List.getElem?_eq_some_iff.1 hu).1
  rw [Array.getElem?_append_left (by simpa using hm)]
  simpa using hu
 rw [hargs]
 rcases ho with ⟨rfl, hr, _⟩ | ⟨b, off, cap, T, rfl, f1, f2, f3, f4, f5, f6, f7⟩
 ·subst hr
  have hi0 : i = 0 := by simpa using hi
  subst hi0
  refine (ins_end_grow L none 0 0 vb voff vc [] vs w (by omega) (by omega) (by omega) hbig (by simp) hvsL (fun _ => rfl) (fun a h => by cases h) hvsC hone).mono ?_
  rintro e w' ⟨rfl, hw'⟩
  obtain ⟨n1, n2, n3, n4, n5, n6⟩ := newEnd [] _ rfl (by simp) (gr0 0) w' hw'
  exact hargs ▸ fresh [] (fun _ _ _ => False) _ w' #[] _ (fun r h => by simp at h) (fun m d h => by simp at h) (by simp) (fun _ _ _ _ _ _ _ h => h.elim) (fun _ _ _ _ h => h.elim) rfl n1 n2 (gr0 0) n3 n4 n5 n6
 ·have hfl := flat_len f3
  have hcapsz : rows.length * sz ≤ cap * sz := Nat.mul_le_mul_right _ f1
  have hbr : ∀ o, o < rows.length * sz → ∃ u, w.cell? (at_ b (off + o)) = some u := fun o ho => (f2 o (by omega)).1
  have hcsL := rowAt_len w b off (rows.length * sz)
  have hcsC : ∀ j v, (rowAt w b off (rows.length * sz))[j]? = some v → w.cell? ⟨b, off + j, none⟩ = some v := fun j v h => rowAt_cell hbr h
  have hcsO : ∀ m d, rows.flatten[m]? = some d → ∃ u, (rowAt w b off (rows.length * sz))[m]? = some u ∧ Own w Fz k u d (T m) := fun m d hd => by
   obtain ⟨u, hu, ho⟩ := f4 m d hd
   exact ⟨u, rowAt_get (by have := mem_len hd; omega) hu, ho⟩
  have hone' : ∀ v ∈ rowAt w b off (rows.length * sz), v.oneCell' = true := fun v hv => by
   obtain ⟨m, hm⟩ := List.getElem?_of_mem hv
   have hm2 := (List.getElem?_eq_some_iff.1 hm).1
   obtain ⟨u, hu, ho⟩ := hcsO m _ (List.getElem?_eq_getElem (by omega))
   rw [hu] at hm; cases hm
   exact ho.one
  generalize rowAt w b off (rows.length * sz) = cs at *
  have hTS0 : ∀ m, m < rows.flatten.length → ∀ x y, T m x y → S0 x y := fun m hm x y h => (f7 x y).2 (.inr ⟨m, hm, h⟩)
  have hRS : ∀ x y, rng b off (cap * sz) x y → S0 x y := fun x y h => (f7 x y).2 (.inl h)
  have esz : (i + 1) * sz = i * sz + sz := by rw [Nat.add_mul]; omega
  have en : (rows.length + 1) * sz = rows.length * sz + sz := by rw [Nat.add_mul]; omega
  have eil : i * sz ≤ rows.length * sz := Nat.mul_le_mul_right _ hi
  have l2 : (cs.take (i * sz)).length = i * sz := by rw [List.length_take]; omega
  have hdl : (cs.drop (i * sz)).length = rows.length * sz - i * sz := by rw [List.length_drop]; omega
  by_cases hroom : rows.length + 1 ≤ cap
  ·have hcap2 : (rows.length + 1) * sz ≤ cap * sz := Nat.mul_le_mul_right _ hroom
   have hf2 : ∀ o, w.frz? (at_ b o) = false := fun o => (f2 0 (by omega)).2
   obtain ⟨u0, hu0⟩ := (f2 0 (by omega)).1
   have hfroz : ∀ o, w.frozen? ⟨b, o, none⟩ = false := fun o => by
    have h := hf2 0
    unfold World.cell? at hu0
    unfold World.frz? at h
    unfold World.frozen?
    split at hu0
    ·rename_i cs' t fr hh
     have hh : w.heap[b]? = some (.cells cs' t fr) := hh
     simp only [hh] at h ⊢
     simp at h
     simp
     omega
    ·cases hu0
   have shp : ∀ {b o : Nat} {u : Value}, w.cell? (at_ b o) = some u → ∃ t q, w.shape? b = some (t, q) ∧ q ≠ 0 := by
    intro b o u h
    unfold World.cell? at h
    split at h
    ·rename_i cs' t fr hh
     have hh : w.heap[b]? = some (.cells cs' t fr) := hh
     refine ⟨t, cs'.size, by unfold World.shape?; rw [hh], ?_⟩
     have := (Array.getElem?_eq_some_iff.1 (show cs'[o]? = some u from h)).1
     omega
    ·cases h
   have hvbb : vb = b → voff + sz ≤ off ∨ off + (rows.length + 1) * sz ≤ voff := by
    intro hb
    by_cases hx : voff + sz ≤ off ∨ off + (rows.length + 1) * sz ≤ voff
    ·exact hx
    ·exfalso
     by_cases hy : voff ≤ off
     ·exact hd02 vb off (hRS _ _ ⟨hb, by omega, by omega⟩) ((g7 _ _).2 (.inl ⟨rfl, by omega, by omega⟩))
     ·exact hd02 vb voff (hRS _ _ ⟨hb, by omega, by omega⟩) ((g7 _ _).2 (.inl ⟨rfl, by omega, by omega⟩))
   have hsp : ∀ j, j < (rows.length + 1) * sz → (w.cell? ⟨b, off + j, none⟩).isSome = true := fun j hj => by
    obtain ⟨u, hu⟩ := (f2 j (by omega)).1
    show (w.cell? (at_ b (off + j))).isSome = true
    rw [hu]; rfl
   have inpl : ∀ (e : Ending) (w' : World), e = .returned (.slice (some (at_ b off)) (rows.length + 1) cap) → (w'.os = w.os ∧ w'.output = w.output) → w'.heap.size = w.heap.size → (∀ a, w'.frz? a = w.frz? a) → (∀ x, x ≠ b → w'.heap[x]? = w.heap[x]?) →
     (∀ y, y < off ∨ off + (rows.length + 1) * sz ≤ y → w'.cell? (at_ b y) = w.cell? (at_ b y)) → (∀ x, (w.cell? x).isSome = true → (w'.cell? x).isSome = true) →
     (∀ m u, (cs.take (i * sz) ++ (vs ++ cs.drop (i * sz)))[m]? = some u → w'.cell? (at_ b (off + m)) = some u) →
     ∃ v' Fz' U', e = .returned v' ∧ Post w w' Fz Fz' (fun x y => ∃ i, i < 3 ∧ U i x y) args v' (.own k sz (rows.take i ++ row :: rows.drop i)) [none, none, none] U' := by
    intro e w' he hside hsize hfr hheap hcell hsome hns
    refine fin (rng b off (cap * sz)) cs T e w' b off cap f3 hcsO hcsL f5 (fun m hm x y h => ⟨hTS0 m hm x y h, fun hr => f6 m hm x y hr h⟩) hRS he hside (by omega) hroom (fun o ho => ?_) hns (fun x y hx hn => ?_) (fun x hx hn => hheap x fun hb => hn off ⟨hb, by omega, by omega⟩) (fun x y h => .inl h)
    ·obtain ⟨⟨u, hu⟩, h⟩ := f2 o ho
     exact ⟨Option.isSome_iff_exists.1 (hsome _ (by rw [hu]; rfl)), (hfr _).trans h⟩
    ·by_cases hb : x = b
     ·subst hb
      refine ⟨hcell y ?_, hfr _⟩
      by_cases h : y < off ∨ off + (rows.length + 1) * sz ≤ y
      ·exact h
      ·exact absurd ⟨rfl, by omega, by omega⟩ hn
     ·exact keep_of_heap (hheap x hb) y
   by_cases hil : i < rows.length
   ·obtain ⟨uv, huv⟩ := hvr 0 hszp
    obtain ⟨tA, kA, hsa, hkA⟩ := shp huv
    obtain ⟨tB, kB, hsb, hkB⟩ := shp hu0
    refine (ins_shift L b off rows.length cap i vb voff vc cs vs w hil hroom hn63 hvbb hcsL hvsL hcsC hsp (fun j _ => hfroz _) hvsC hone' hone tA tB kA kB hsa hsb hkA hkB hfroz).mono ?_
    rintro e w' ⟨he, hw'⟩
    obtain ⟨W1, hW1⟩ : ∃ W1, W1 = w.drew.setCells b (off + (i + 1) * sz) (cs.drop (i * sz)) := ⟨_, rfl⟩
    rw [← hW1] at hw'
    have hs1 : ∀ x, (w.cell? x).isSome = true → (W1.cell? x).isSome = true := fun x hx => by rw [hW1]; exact World.isSome_setCells b _ _ w.drew x hx
    refine hargs ▸ inpl e w' he ?_ ?_ ?_ ?_ ?_ ?_ ?_
    ·rw [hw']; have e1 := ins_side (w := W1) (b := b) (o := off + i * sz) (vs := vs); have e2 := ins_side (w := w.drew) (b := b) (o := off + (i + 1) * sz) (vs := cs.drop (i * sz)); rw [← hW1] at e2; exact ⟨e1.1.trans e2.1, e1.2.trans e2.2⟩
    ·rw [hw', ins_hsize, hW1, ins_hsize]; rfl
    ·intro a; rw [hw', ins_frz, hW1, ins_frz]; rfl
    ·intro x hx; rw [hw', ins_heap hx, hW1, ins_heap hx]; rfl
    ·intro y hy; rw [hw', ins_out (by omega), hW1, ins_out (by omega)]; rfl
    ·intro x hx; rw [hw']; exact World.isSome_setCells b _ _ _ _ (hs1 x hx)
    ·intro m u hu
     rw [hw']
     by_cases c1 : m < i * sz
     ·rw [List.getElem?_append_left (by omega), List.getElem?_take_of_lt c1] at hu
      rw [ins_out (by omega), hW1, ins_out (by omega)]
      exact hcsC m u hu
     ·rw [List.getElem?_append_right (by omega), l2] at hu
      by_cases c2 : m < i * sz + sz
      ·rw [List.getElem?_append_left (by omega)] at hu
       have := ins_some (w := W1) (b := b) (o := off + i * sz) (vs := vs) (fun t ht => hs1 _ (by rw [show off + i * sz + t = off + (i * sz + t) by omega]; exact hsp _ (by omega))) hu
       rwa [show off + i * sz + (m - i * sz) = off + m by omega] at this
      ·rw [List.getElem?_append_right (by omega), hvsL] at hu
       have hml := (List.getElem?_eq_some_iff.1 hu).1
       rw [ins_out (by omega), hW1]
       have := ins_some (w := w.drew) (b := b) (o := off + (i + 1) * sz) (vs := cs.drop (i * sz)) (fun t ht => by
        rw [show off + (i + 1) * sz + t = off + ((i + 1) * sz + t) by omega]
        exact hsp _ (by omega)) hu
       rwa [show off + (i + 1) * sz + (m - i * sz - sz) = off + m by omega] at this
   ·have hin : i = rows.length := by omega
    subst hin
    refine (ins_end_room L b off rows.length cap vb voff vc vs w hroom hn63 hvsL (fun j hj => by rw [Nat.add_assoc]; exact hsp _ (by omega)) (fun j _ => hfroz _) hvsC hone).mono ?_
    rintro e w' ⟨he, hw'⟩
    refine hargs ▸ inpl e w' he ?_ ?_ ?_ ?_ ?_ ?_ ?_
    ·rw [hw']; exact ins_side
    ·rw [hw', ins_hsize]
    ·intro a; rw [hw', ins_frz]
    ·intro x hx; rw [hw', ins_heap hx]
    ·intro y hy; rw [hw', ins_out (by omega)]
    ·intro x hx; rw [hw']; exact World.isSome_setCells b _ _ _ _ hx
    ·intro m u hu
     rw [hw']
     by_cases c1 : m < rows.length * sz
     ·rw [List.getElem?_append_left (by omega), List.getElem?_take_of_lt c1] at hu
      rw [ins_out (by omega)]
      exact hcsC m u hu
     ·rw [List.getElem?_append_right (by omega), l2, List.drop_eq_nil_of_le (by omega), List.append_nil] at hu
      have hml := (List.getElem?_eq_some_iff.1 hu).1
      have := ins_some (w := w) (b := b) (o := off + rows.length * sz) (vs := vs) (fun t ht => by rw [Nat.add_assoc]; exact hsp _ (by omega)) hu
      rwa [show off + rows.length * sz + (m - rows.length * sz) = off + m by omega] at this
  ·by_cases hil : i < rows.length
   ·refine (ins_grow L b off rows.length cap i vb voff vc cs vs w hil f1 (by omega) hn63 hbig hcsL hvsL hcsC hvsC hone' hone).mono ?_
    rintro e w' ⟨he, hw'⟩
    have hG := gr0 cap
    generalize grownCap w (rows.length + 1) cap (ρ.t 9) = g at *
    obtain ⟨ROW, hROW⟩ : ∃ ROW : Array Value, ROW = (cs.take (i * sz)).toArray ++ Builtin.zeroCells z.cells (rows.length + 1 - i) ++ Builtin.zeroCells z.cells (g - (rows.length + 1)) := ⟨_, rfl⟩
    rw [← hROW] at hw'
    have hRs : ROW.size = g * sz := by
     rw [hROW]
     simp only [Array.size_append, List.size_toArray, hzc, l2]
     have h1 : (rows.length + 1) * sz + (g - (rows.length + 1)) * sz = g * sz := by rw [← Nat.add_mul]; congr 1; omega
     have h2 : i * sz + (rows.length + 1 - i) * sz = (rows.length + 1) * sz := by rw [← Nat.add_mul]; congr 1; omega
     omega
    have hg2 : (rows.length + 1) * sz ≤ g * sz := Nat.mul_le_mul_right _ hG
    obtain ⟨W0, hW0⟩ : ∃ W0, W0 = (w.alloc (.cells ROW (ρ.t 9))).drew := ⟨_, rfl⟩
    rw [← hW0] at hw'
    have hnew : W0.heap[w.heap.size]? = some (.cells ROW (ρ.t 9) (0, 0)) := by rw [hW0]; exact heap_alloc_new w _
    have hold : ∀ x, x < w.heap.size → W0.heap[x]? = w.heap[x]? := fun x hx => by rw [hW0]; exact heap_alloc_old w _ hx
    have hc0 : ∀ o, W0.cell? (at_ w.heap.size o) = ROW[o]? := fun o => by simp [World.cell?, hnew]
    have hsome0 : ∀ o, o < g * sz → (W0.cell? (at_ w.heap.size o)).isSome = true := fun o ho => by rw [hc0, Array.getElem?_eq_getElem (by omega)]; rfl
    have hside0 : W0.os = w.os ∧ W0.output = w.output := by rw [hW0]; exact ⟨rfl, rfl⟩
    have hsize0 : W0.heap.size = w.heap.size + 1 := by rw [hW0]; show (w.alloc _).heap.size = _; simp
    have hf0 : ∀ o, W0.frz? (at_ w.heap.size o) = false := fun o => frz_cells (a := at_ w.heap.size o) hnew rfl
    obtain ⟨W1, hW1⟩ : ∃ W1, W1 = W0.setCells w.heap.size (i * sz) vs := ⟨_, rfl⟩
    rw [← hW1] at hw'
    have hsome1 : ∀ o, o < g * sz → (W1.cell? (at_ w.heap.size o)).isSome = true := fun o ho => by rw [hW1]; exact World.isSome_setCells _ _ _ _ _ (hsome0 o ho)
    have hd1 : ∀ x, (W1.drew).cell? x = W1.cell? x := fun _ => rfl
    refine hargs ▸ fresh cs T e w' #[] g f3 hcsO hcsL f5 hTS0 he ?_ ?_ hG (fun o ho => ?_) (fun o => ?_) (fun m u hu => ?_) (fun x hx => ?_)
    ·rw [hw']; have e1 := ins_side (w := W1.drew) (b := w.heap.size) (o := (i + 1) * sz) (vs := cs.drop (i * sz)); have e2 := ins_side (w := W0) (b := w.heap.size) (o := i * sz) (vs := vs); rw [← hW1] at e2; exact ⟨e1.1.trans (e2.1.trans hside0.1), e1.2.trans (e2.2.trans hside0.2)⟩
    ·rw [hw', ins_hsize]; show W1.heap.size = _; rw [hW1, ins_hsize]; exact hsize0
    ·rw [hw']; exact Option.isSome_iff_exists.1 (World.isSome_setCells _ _ _ _ _ (hsome1 o ho))
    ·rw [hw', ins_frz]; show W1.frz? _ = false; rw [hW1, ins_frz]; exact hf0 o
    ·rw [hw']
     by_cases c1 : m < i * sz
     ·rw [List.getElem?_append_left (by omega), List.getElem?_take_of_lt c1] at hu
      rw [ins_out (by omega), hd1, hW1, ins_out (by omega), hc0, hROW, Array.append_assoc, Array.getElem?_append_left (by simp; omega)]
      simp [List.getElem?_take_of_lt c1, hu]
     ·rw [List.getElem?_append_right (by omega), l2] at hu
      by_cases c2 : m < i * sz + sz
      ·rw [List.getElem?_append_left (by omega)] at hu
       rw [ins_out (by omega), hd1, hW1]
       have := ins_some (w := W0) (b := w.heap.size) (o := i * sz) (vs := vs) (fun t ht => hsome0 _ (by omega)) hu
       rwa [show i * sz + (m - i * sz) = m by omega] at this
      ·rw [List.getElem?_append_right (by omega), hvsL] at hu
       have hml := (List.getElem?_eq_some_iff.1 hu).1
       have := ins_some (w := W1.drew) (b := w.heap.size) (o := (i + 1) * sz) (vs := cs.drop (i * sz)) (fun t ht => hsome1 _ (by omega)) hu
       rwa [show (i + 1) * sz + (m - i * sz - sz) = m by omega] at this
    ·rw [hw', ins_heap (by omega)]; show W1.heap[x]? = _; rw [hW1, ins_heap (by omega)]; exact hold x hx
   ·have hin : i = rows.length := by omega
    subst hin
    refine (ins_end_grow L (some ⟨b, off, none⟩) rows.length cap vb voff vc cs vs w f1 (by omega) hn63 hbig hcsL hvsL (fun h => by cases h) (fun a h j x hj => by cases h; rw [Addr.add_lit]; exact hcsC j x hj) hvsC hone).mono ?_
    rintro e w' ⟨he, hw'⟩
    obtain ⟨n1, n2, n3, n4, n5, n6⟩ := newEnd cs _ rfl hcsL (gr0 cap) w' hw'
    exact hargs ▸ fresh cs T e w' #[] _ f3 hcsO hcsL f5 hTS0 he n1 n2 (gr0 cap) n3 n4 n5 n6
end Go.Proofs.YtoomonfpedjgoaaGreatDoor.Ab

namespace Go.Proofs.YtoomonfpedjgoaaGreatDoor.Ab
theorem goL_det {α : Type} {e : Env} : ∀ {m : RM α} {K : α → List Loc → Prop}, goL e m K → ∃ r l, K r l ∧ goL e m fun r' l' => r' = r ∧ l' = l := by
 intro m
 induction m with
 | ret a => intro K h; exact ⟨a, [], h, rfl, rfl⟩
 | fail => intro K h; exact h.elim
 | rs v s k ih =>
  intro K h
  simp only [goL] at h
  split at h
  ·rename_i x hx
   obtain ⟨r, l, h1, h2⟩ := ih x h
   refine ⟨r, _, h1, ?_⟩
   simp only [goL, hx]
   exact goL_mono (fun r' l' h => ⟨h.1, by rw [h.2]⟩) h2
  ·exact h.elim
 | rh n k ih =>
  intro K h
  simp only [goL] at h
  split at h
  ·rename_i x hx
   obtain ⟨r, l, h1, h2⟩ := ih x h
   refine ⟨r, _, h1, ?_⟩
   simp only [goL, hx]
   exact goL_mono (fun r' l' h => ⟨h.1, by rw [h.2]⟩) h2
  ·exact h.elim
 | ite b x y ihx ihy =>
  intro K h
  cases b with
  | true =>
   obtain ⟨r, l, h1, h2⟩ := ihx (h.1 rfl)
   exact ⟨r, l, h1, fun _ => h2, fun e => by cases e⟩
  | false =>
   obtain ⟨r, l, h1, h2⟩ := ihy (h.2 rfl)
   exact ⟨r, l, h1, fun e => (by cases e), fun _ => h2⟩
 | need p k ih =>
  intro K h
  obtain ⟨r, l, h1, h2⟩ := ih h.2
  exact ⟨r, l, h1, h.1, h2⟩
 | call f cs k ih =>
  intro K h
  obtain ⟨c, os, hv, hg⟩ := h
  obtain ⟨r, l, h1, h2⟩ := ih c os hg
  exact ⟨r, l, h1, c, os, hv, h2⟩
section
variable {V : FuncId → List C → C → List (Option C) → Prop} {base : Nat}
theorem regS_mono : ∀ {ops : List AOper} {i : Nat} {st : St} {K K' : St → Prop}, (∀ s, K s → K' s) → regS V base i ops st K → regS V base i ops st K' := by
 intro ops
 induction ops with
 | nil => intro i st K K' hk h; exact hk _ h
 | cons o r ih => intro i st K K' hk h; exact goL_mono (fun wr l h => ih hk h) h
theorem regD_mono : ∀ {ops : List AOper} {i : Nat} {logs : List (List Loc × List Loc)} {acc : Bool} {st : St} {K K' : St → Prop}, (∀ s, K s → K' s) → regD V base i ops logs acc st K → regD V base i ops logs acc st K' := by
 intro ops
 induction ops with
 | nil => intro i logs acc st K K' hk h; exact ⟨h.1, hk _ h.2⟩
 | cons o r ih => intro i logs acc st K K' hk h; exact goL_mono (fun wr l h => ih hk h) h
theorem regS_det : ∀ {ops : List AOper} {i : Nat} {st : St} {K : St → Prop}, regS V base i ops st K → ∃ st', K st' ∧ regS V base i ops st fun s => s = st' := by
 intro ops
 induction ops with
 | nil => intro i st K h; exact ⟨st, h, rfl⟩
 | cons o r ih =>
  intro i st K h
  simp only [regS] at h
  obtain ⟨wr, l, h1, h2⟩ := goL_det h
  obtain ⟨st', h3, h4⟩ := ih h1
  refine ⟨st', h3, ?_⟩
  simp only [regS]
  exact goL_mono (fun r' l' h => by rw [h.1]; exact h4) h2
theorem regD_det : ∀ {ops : List AOper} {i : Nat} {logs : List (List Loc × List Loc)} {acc : Bool} {st : St} {K : St → Prop}, regD V base i ops logs acc st K → ∃ st', K st' ∧ regD V base i ops logs acc st fun s => s = st' := by
 intro ops
 induction ops with
 | nil => intro i logs acc st K h; exact ⟨st, h.2, h.1, rfl⟩
 | cons o r ih =>
  intro i logs acc st K h
  simp only [regD] at h
  obtain ⟨wr, l, h1, h2⟩ := goL_det h
  obtain ⟨st', h3, h4⟩ := ih h1
  refine ⟨st', h3, ?_⟩
  simp only [regD]
  exact goL_mono (fun r' l' h => by rw [h.1, h.2]; exact h4) h2
end
def Dt (P : Program) (vl : List Nat) (nt : Nat × List Nat) (V : FuncId → List C → C → List (Option C) → Prop) (ac : ACode) (st : St) (Kn : St → Prop) (Ke : Nat → St → Prop) (Kr : St → Prop) : Prop :=
 ∃ ex st', (match ex with | .norm => Kn st' | .exit id => Ke id st' | .ret => Kr st') ∧ WS P vl nt V ac st fun e s => e = ex ∧ s = st'
section
variable {P : Program} {vl : List Nat} {nt : Nat × List Nat} {V : FuncId → List C → C → List (Option C) → Prop} {st : St} {Kn : St → Prop} {Ke : Nat → St → Prop} {Kr : St → Prop}
theorem D_skip (h : Kn st) : Dt P vl nt V .skip st Kn Ke Kr := ⟨.norm, st, h, WS_skip ⟨rfl, rfl⟩⟩
theorem D_ret (h : Kr st) : Dt P vl nt V .ret st Kn Ke Kr := ⟨.ret, st, h, WS_ret ⟨rfl, rfl⟩⟩
theorem D_exit {id : Nat} (h : Ke id st) : Dt P vl nt V (.exit id) st Kn Ke Kr := ⟨.exit id, st, h, WS_exit ⟨rfl, rfl⟩⟩
theorem D_seq {a b : ACode} (h : Dt P vl nt V a st (fun st' => Dt P vl nt V b st' Kn Ke Kr) Ke Kr) : Dt P vl nt V (.seq a b) st Kn Ke Kr := by
 obtain ⟨ex, st1, hq, hw⟩ := h
 cases ex with
 | norm =>
  obtain ⟨ex2, st2, hq2, hw2⟩ := hq
  exact ⟨ex2, st2, hq2, WS_seq (hw.mono fun e s h => by obtain ⟨rfl, rfl⟩ := h; exact hw2)⟩
 | exit id => exact ⟨.exit id, st1, hq, WS_seq (hw.mono fun e s h => by obtain ⟨rfl, rfl⟩ := h; exact ⟨rfl, rfl⟩)⟩
 | ret => exact ⟨.ret, st1, hq, WS_seq (hw.mono fun e s h => by obtain ⟨rfl, rfl⟩ := h; exact ⟨rfl, rfl⟩)⟩
theorem D_block {id : Nat} {a : ACode} (h : Dt P vl nt V a st Kn (fun j st' => if j = id then Kn st' else Ke j st') Kr) : Dt P vl nt V (.block id a) st Kn Ke Kr := by
 obtain ⟨ex, st1, hq, hw⟩ := h
 cases ex with
 | norm => exact ⟨.norm, st1, hq, WS_block (hw.mono fun e s h => by obtain ⟨rfl, rfl⟩ := h; exact ⟨rfl, rfl⟩)⟩
 | ret => exact ⟨.ret, st1, hq, WS_block (hw.mono fun e s h => by obtain ⟨rfl, rfl⟩ := h; exact ⟨rfl, rfl⟩)⟩
 | exit j =>
  by_cases hj : j = id
  ·have hq : if j = id then Kn st1 else Ke j st1 := hq
   rw [if_pos hj] at hq
   exact ⟨.norm, st1, hq, WS_block (hw.mono fun e s h => by obtain ⟨rfl, rfl⟩ := h; show if j = id then _ else _; rw [if_pos hj]; exact ⟨rfl, rfl⟩)⟩
  ·have hq : if j = id then Kn st1 else Ke j st1 := hq
   rw [if_neg hj] at hq
   exact ⟨.exit j, st1, hq, WS_block (hw.mono fun e s h => by obtain ⟨rfl, rfl⟩ := h; show if j = id then _ else _; rw [if_neg hj]; exact ⟨rfl, rfl⟩)⟩
theorem D_cond {x : Nat} {t : Bool} {a b : ACode} (hx : look st.vars x = some (.d (.bool t))) (h1 : t = true → Dt P vl nt V a st Kn Ke Kr) (h2 : t = false → Dt P vl nt V b st Kn Ke Kr) : Dt P vl nt V (.cond (.var x) a b) st Kn Ke Kr := by
 have key : ∀ (u : Bool) (ac : ACode), t = u → (ac = if u then a else b) → Dt P vl nt V ac st Kn Ke Kr → Dt P vl nt V (.cond (.var x) a b) st Kn Ke Kr := by
  rintro u ac rfl rfl ⟨ex, st1, hq, hw⟩
  refine ⟨ex, st1, hq, WS_cond ?_⟩
  show goL (st.env V) (.rs true x .ret) _
  simp only [goL]
  have : (st.env V).sl true x = some (.d (.bool t)) := hx
  rw [this]
  cases t with
  | true => exact ⟨fun _ => hw, fun e => by cases e⟩
  | false => exact ⟨fun e => (by cases e), fun _ => hw⟩
 cases t with
 | true => exact key true a rfl rfl (h1 rfl)
 | false => exact key false b rfl rfl (h2 rfl)
theorem D_regP {ops : List AOper} (h : ∀ K : St → Prop, (∀ st', Kn ⟨[], st'.vars, st'.objs, st.nx + 64 * ops.length⟩ → K st') → regS V st.nx 0 ops st K) : Dt P vl nt V (.reg ops false) st Kn Ke Kr := by
 obtain ⟨s1, h1, h2⟩ := regS_det (h (fun st' => Kn ⟨[], st'.vars, st'.objs, st.nx + 64 * ops.length⟩) fun _ h => h)
 refine ⟨.norm, _, h1, WS_reg (regS_W _ _ _ _ ?_)⟩
 exact regS_mono (fun s e => by subst e; exact ⟨rfl, rfl⟩) h2
theorem D_regPD {ops : List AOper} (h : ∀ K : St → Prop, (∀ st', Kn ⟨[], st'.vars, st'.objs, st.nx + 64 * ops.length⟩ → K st') → regD V st.nx 0 ops [] true st K) : Dt P vl nt V (.reg ops true) st Kn Ke Kr := by
 obtain ⟨s1, h1, h2⟩ := regD_det (h (fun st' => Kn ⟨[], st'.vars, st'.objs, st.nx + 64 * ops.length⟩) fun _ h => h)
 have h3 : regD V st.nx 0 ops [] true st (fun st' => Ex.norm = Ex.norm ∧ (⟨[], st'.vars, st'.objs, st.nx + 64 * ops.length⟩ : St) = ⟨[], s1.vars, s1.objs, st.nx + 64 * ops.length⟩) := regD_mono (fun s e => by subst e; exact ⟨rfl, rfl⟩) h2
 exact ⟨.norm, _, h1, WS_reg (regD_acc _ _ _ _ _ h3).2⟩
theorem D_regS {ops : List AOper} {st' : St} (h : ∀ K : St → Prop, K st' → regS V st.nx 0 ops st K) (hK : Kn ⟨[], st'.vars, st'.objs, st.nx + 64 * ops.length⟩) : Dt P vl nt V (.reg ops false) st Kn Ke Kr :=
 D_regP fun K hk => h K (hk _ hK)
theorem D_regD {ops : List AOper} {st' : St} (h : ∀ K : St → Prop, K st' → regD V st.nx 0 ops [] true st K) (hK : Kn ⟨[], st'.vars, st'.objs, st.nx + 64 * ops.length⟩) : Dt P vl nt V (.reg ops true) st Kn Ke Kr :=
 D_regPD fun K hk => h K (hk _ hK)
theorem D_regB {ops : List AOper} (r : Nat) (b : Bool) (h : ∀ K : St → Prop, (∀ t tm, t = b → K ⟨tm, put st.vars r (.d (.bool t)), st.objs, st.nx⟩) → regS V st.nx 0 ops st K)
  (hK : Kn ⟨[], put st.vars r (.d (.bool b)), st.objs, st.nx + 64 * ops.length⟩) : Dt P vl nt V (.reg ops false) st Kn Ke Kr :=
 D_regP fun K hk => h K fun t tm e => hk _ (by subst e; exact hK)
theorem D_regBD {ops : List AOper} (r : Nat) (b : Bool) (h : ∀ K : St → Prop, (∀ t tm, t = b → K ⟨tm, put st.vars r (.d (.bool t)), st.objs, st.nx⟩) → regD V st.nx 0 ops [] true st K)
  (hK : Kn ⟨[], put st.vars r (.d (.bool b)), st.objs, st.nx + 64 * ops.length⟩) : Dt P vl nt V (.reg ops true) st Kn Ke Kr :=
 D_regPD fun K hk => h K fun t tm e => hk _ (by subst e; exact hK)
theorem D_of {ac : ACode} {st1 : St} (hr : ∀ (Kn : St → Prop) (Ke : Nat → St → Prop) (Kr : St → Prop), W P vl nt V ac st1 Kn Ke Kr → W P vl nt V ac st Kn Ke Kr) (h : Dt P vl nt V ac st1 Kn Ke Kr) : Dt P vl nt V ac st Kn Ke Kr := by
 obtain ⟨ex, s1, hq, hw⟩ := h
 refine ⟨ex, s1, hq, ?_⟩
 have := hr (fun s => Ex.norm = ex ∧ s = s1) (fun j s => Ex.exit j = ex ∧ s = s1) (fun s => Ex.ret = ex ∧ s = s1) (WS.mono hw fun e s h => by cases e <;> exact h)
 exact WS.mono this fun e s h => by cases e <;> exact h
theorem D_gc {ac : ACode} (live : List Nat) (h : Dt P vl nt V ac (gc live st) Kn Ke Kr) : Dt P vl nt V ac st Kn Ke Kr := D_of (fun _ _ _ h => W_gc live h) h
theorem D_norm {ac : ACode} (live : List Nat) {s1 : St} (e : gc live st = s1) (h : Dt P vl nt V ac s1 Kn Ke Kr) : Dt P vl nt V ac st Kn Ke Kr := D_gc live (by rw [e]; exact h)
theorem Dt.mono {ac : ACode} {Kn' : St → Prop} {Ke' : Nat → St → Prop} {Kr' : St → Prop} (h : Dt P vl nt V ac st Kn Ke Kr) (h1 : ∀ st, Kn st → Kn' st) (h2 : ∀ j st, Ke j st → Ke' j st) (h3 : ∀ st, Kr st → Kr' st) : Dt P vl nt V ac st Kn' Ke' Kr' := by
 obtain ⟨ex, s1, hq, hw⟩ := h
 refine ⟨ex, s1, ?_, hw⟩
 cases ex with
 | norm => exact h1 _ hq
 | exit id => exact h2 _ _ hq
 | ret => exact h3 _ hq
theorem D_cut {a b : ACode} (live : List Nat) (M : St → Prop) (h1 : Dt P vl nt V a st (fun st' => M (gc live st')) Ke Kr) (h2 : ∀ st', M st' → Dt P vl nt V b st' Kn Ke Kr) : Dt P vl nt V (.seq a b) st Kn Ke Kr :=
 D_seq (h1.mono (fun _ hm => D_gc live (h2 _ hm)) (fun _ _ h => h) (fun _ h => h))
theorem D_nilP {ac : ACode} (s j : Nat) {n o k sz : Nat} {cells : List A} (hs : look st.vars s = some (.ptr n o)) (hn : look st.objs n = some (.box cells)) (hj : cells[j]? = some (.nil k sz))
  (h : Dt P vl nt V ac ⟨st.tmps, st.vars, setO st.objs [(n, some (.box (cells.set j (.sl st.nx)))), (st.nx, some (.arr 0 k sz []))], st.nx + 1⟩ Kn Ke Kr) : Dt P vl nt V ac st Kn Ke Kr := D_of (fun _ _ _ h => W_nilP s j hs hn hj h) h
theorem D_nilV {ac : ACode} (s : Nat) {k sz : Nat} (hs : look st.vars s = some (.nil k sz))
  (h : Dt P vl nt V ac ⟨st.tmps, put st.vars s (.sl st.nx), setO st.objs [(st.nx, some (.arr 0 k sz []))], st.nx + 1⟩ Kn Ke Kr) : Dt P vl nt V ac st Kn Ke Kr := D_of (fun _ _ _ h => W_nilV s hs h) h
inductive Rnd (P : Program) (vl : List Nat) (nt : Nat × List Nat) (V : FuncId → List C → C → List (Option C) → Prop) (live : List Nat) (a : ACode) (ex : Ex) (st' : St) : Nat → St → Prop
 | last (s : St) : ex ≠ .norm → WS P vl nt V a s (fun e s1 => e = ex ∧ s1 = st') → Rnd P vl nt V live a ex st' 0 s
 | more (n : Nat) (s s1 : St) : WS P vl nt V a s (fun e s2 => e = .norm ∧ s2 = s1) → Rnd P vl nt V live a ex st' n (gc live s1) → Rnd P vl nt V live a ex st' (n + 1) s
theorem D_loop {live : List Nat} {a : ACode} (I : Nat → St → Prop) (n : Nat) (h0 : I n (gc live st)) (hI : ∀ n st, I n st → Dt P vl nt V a st (fun st' => ∃ m, m < n ∧ I m (gc live st')) Ke Kr) : Dt P vl nt V (.loop live a) st Kn Ke Kr := by
 have key : ∀ n s, I n s → ∃ ex st' k, (match ex with | .norm => Kn st' | .exit id => Ke id st' | .ret => Kr st') ∧ Rnd P vl nt V live a ex st' k s := by
  intro n
  induction n using Nat.strongRecOn with
  | ind n ih =>
   intro s hs
   obtain ⟨ex, s1, hq, hw⟩ := hI n s hs
   cases ex with
   | norm =>
    obtain ⟨m, hm, hq⟩ := hq
    obtain ⟨ex, st', k, h1, h2⟩ := ih m hm _ hq
    exact ⟨ex, st', k + 1, h1, .more k s s1 hw h2⟩
   | exit id => exact ⟨.exit id, s1, 0, hq, .last s (fun e => by cases e) hw⟩
   | ret => exact ⟨.ret, s1, 0, hq, .last s (fun e => by cases e) hw⟩
 obtain ⟨ex, st', k, h1, h2⟩ := key n _ h0
 refine ⟨ex, st', h1, WS_loop_gc (fun n s => Rnd P vl nt V live a ex st' n s) ⟨k, h2⟩ fun n s hr => ?_⟩
 cases hr with
 | last _ hne hw =>
  refine hw.mono fun e s1 h => ?_
  obtain ⟨rfl, rfl⟩ := h
  cases e with
  | norm => exact absurd rfl hne
  | exit id => exact ⟨rfl, rfl⟩
  | ret => exact ⟨rfl, rfl⟩
 | more n _ s1 hw hr =>
  refine hw.mono fun e s2 h => ?_
  obtain ⟨rfl, rfl⟩ := h
  exact ⟨n, Nat.lt_succ_self n, hr⟩
end
theorem cvDM {α : Type} {P : Program} {G : GV} {f : FuncId} {fn : Func} {om : List (Option Mode)} {vl : List Nat} {rs : List (Mode × Nat × Option (Bool × Nat))} {c : ACode} {cs : List C} (hf : P.funcs[f]? = some fn) (nr : Nat) (R : α → Prop) (rc : α → List C) (oc : α → List (Option C)) (hn : ∀ a, (rc a).length = nr)
  (hk : okFn P vl om rs fn cs.length nr = true) (hcomp : comp P (fn.ntmps, pinOf 0 om) vl (fn.body.getD .skip) = some c.erase)
  (hW : Dt P vl (fn.ntmps, pinOf 0 om) (Valid P G) c (entry cs) (fun st => ∃ a, R a ∧ Fin (Valid P G) rs om (rc a) (oc a) st) (fun _ _ => False) (fun st => ∃ a, R a ∧ Fin (Valid P G) rs om (rc a) (oc a) st)) : ∃ a, R a ∧ Valid P G f cs (retOf (rc a)) (oc a) := by
 obtain ⟨ex, st', hq, hw⟩ := hW
 have hq2 : ∃ a, R a ∧ Fin (Valid P G) rs om (rc a) (oc a) st' ∧ ∀ id, ex ≠ .exit id := by
  cases ex with
  | norm => obtain ⟨a, h1, h2⟩ := hq; exact ⟨a, h1, h2, fun id e => by cases e⟩
  | ret => obtain ⟨a, h1, h2⟩ := hq; exact ⟨a, h1, h2, fun id e => by cases e⟩
  | exit id => exact hq.elim
 obtain ⟨a, h1, h2, h3⟩ := hq2
 refine ⟨a, h1, cvM hf (rc a) (by rw [hn a]; exact hk) hcomp rfl (WS.mono hw fun e s h => ?_)⟩
 obtain ⟨rfl, rfl⟩ := h
 cases e with
 | norm => exact h2
 | ret => exact h2
 | exit id => exact absurd rfl (h3 id)
end Go.Proofs.YtoomonfpedjgoaaGreatDoor.Ab
