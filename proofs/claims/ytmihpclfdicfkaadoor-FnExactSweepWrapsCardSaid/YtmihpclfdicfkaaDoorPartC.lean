/-
  A part of a proof about the given program; what is proved is said where each theorem stands.
-/
import Derived.Test.YtmihpclfdicfkaaDoorFrameA
import Derived.Test.YtmihpclfdicfkaaDoorFrameB
import Derived.Test.YtmihpclfdicfkaaDoorFrameC
import Derived.Test.YtmihpclfdicfkaaDoorFrameD
import Derived.Test.YtmihpclfdicfkaaDoorFrameE
import Derived.Test.YtmihpclfdicfkaaDoorShelf
import Derived.Test.YtmihpclfdicfkaaDoorCodesA
import Derived.Test.YtmihpclfdicfkaaDoorCodesB
import Derived.Test.YtmihpclfdicfkaaDoorPartA
import Derived.Test.YtmihpclfdicfkaaDoorPartB
namespace Go.Proofs
end Go.Proofs
set_option linter.unusedSimpArgs false
set_option linter.unusedVariables false
set_option maxRecDepth 100000
set_option maxHeartbeats 2000000
namespace Go.Proofs.YtmihpclfdicfkaaDoor.Ab
open Go.Proofs
variable {GG : GV}
set_option maxHeartbeats 4000000 in
set_option maxRecDepth 1000000 in
open Go.RowKit in
theorem df_walk (B Bn Bi : Nat) (now : Int) (rows : List WV) (b off cap : Nat) (w : World) (hBn : Bn < B) (hBi : Bi < B) (hne : Bn ≠ Bi) (hb : b < B) (hbi : b ≠ Bi) (hbn : b ≠ Bn) (hB : B ≤ w.heap.size) (hn : w.cell? ⟨Bn, 0, none⟩ = some (.int .i64 now))
    (hc : ∀ (k : Nat) x, rows[k]? = some x → WVat w b (off + k * 6) x) (hi : IdsAt B Bi [] w) (hr : rows.length ≤ 1048576) (hcap : rows.length ≤ cap)
    (hroom : ∀ t, t < rows.length * 6 → (w.cell? (at_ b (off + t))).isSome = true ∧ w.frz? (at_ b (off + t)) = false) :
    Calls PP 62 #[.slice (some ⟨b, off, none⟩) rows.length cap, .func (.func 63) #[] #[.pointer (some ⟨Bn, 0, none⟩), .pointer (some ⟨Bi, 0, none⟩)]] w fun e w' =>
      e = .returned (.slice (some ⟨b, off, none⟩) (keptW now rows).length cap) ∧ IdsAt B Bi (goneW now rows) w' ∧ Kx B (fun k => k = Bi ∨ k = b) w w' ∧ RowsK b off (off + rows.length * 6) w w' ∧
        ∀ (k : Nat) x, (keptW now rows)[k]? = some x → WVat w' b (off + k * 6) x := by
  unfold PP
  go_enter Tryd.func62, Tryd.ntmps62
  go_wp2_with (go_at_call 74; refine (idx_walk B Bn Bi now rows [] b off cap w hBn hBi hne hb hbi hB hn hc hi (by simp) hr).mono ?_)
  rintro e w1 ⟨r, rfl, hK1, hR⟩
  rcases hR with ⟨i0, x0, rfl, hx0, he0, hall, hI1⟩ | ⟨rfl, hall, hI1⟩
  · have hi0 := (List.getElem?_eq_some_iff.1 hx0).1
    have D0 := DfS_start hx0 he0 hall (by simpa using hI1) hK1 hb hbi hc
    go_wp2
    go_loopw [5, 6] (fun s t wr => ∃ i j : Nat, s = .int .i64 i ∧ t = .int .i64 j ∧ DfS B Bi b off now rows w i j wr) (fun _ t _ => rows.length - (intOf t).toNat)
    case atStart => exact ⟨i0, i0 + 1, rfl, by go_num, D0⟩
    case round =>
      obtain ⟨i, j, rfl, rfl, D⟩ := hrel
      have hij := D.lt
      have hjn := D.jn
      have hBr : B ≤ wr.heap.size := Nat.le_trans hB D.kx.size
      obtain ⟨cur, q1, q2, q3, q4⟩ := D.cur
      by_cases hlt : j < rows.length
      · have hx := List.getElem?_eq_getElem hlt
        have hcx : cur[j]? = some rows[j] := by
          have := congrArg (fun l => l[0]?) q3
          simpa [hx] using this
        generalize rows[j] = x at hx hcx
        have hil : i < cur.length := by omega
        have hin : i * 6 + 6 ≤ rows.length * 6 := by omega
        have hy := List.getElem?_eq_getElem hil
        generalize cur[i] = y at hy
        have hw := q4 j x hcx
        obtain ⟨c0, c1, c2, c3, c4, c5⟩ := hw
        obtain ⟨O, hO⟩ : ∃ O : Obj, O = .cells #[.int .i64 x.id, .int .i64 x.ends, .string x.kind, .int .i64 x.nonce, .slice x.dat x.dln x.dcp, .int .i64 x.tag] 61 := ⟨_, rfl⟩
        have hKO : Kx B (· = Bi) wr (wr.alloc O) := Kx_alloc _ _ hBr _
        have cn : (wr.alloc O).cell? ⟨Bn, 0, none⟩ = some (.int .i64 now) := ((Kx_cell hKO hBn hne).trans (Kx_cell D.kx hBn (by simp; omega))).trans hn
        have hIO : IdsAt B Bi (goneW now (rows.take j)) (wr.alloc O) := IdsAt_kept D.ids fun k hk hks => heap_alloc_old _ _ hks
        have hgl := goneW_len now (rows.take j)
        rw [List.length_take] at hgl
        have hcl := clo_walk B Bn Bi now x (goneW now (rows.take j)) (wr.alloc O) hBn hBi hne (Nat.le_trans hBr hKO.size) cn hIO (by omega)
        rw [hO] at hcl hKO
        by_cases he : x.ends ≤ now
        · rw [if_pos he, decide_eq_true he] at hcl
          go_wp2_with (go_at_call 63; refine hcl.mono ?_)
          rintro e w2 ⟨rfl, hI2, hK2, _⟩
          go_wp2
          go_roundw
          case rel =>
            have D2 := DfS_hit D hx he hI2 (Kx_trans hKO hK2) hb hbi
            exact ⟨_, _, _, _, _, _, _, _, _, _, _, _, _, _, _, _, _, _, _, _, _, _, _, ⟨i, j + 1, rfl, by go_num, D2⟩, rfl⟩
          case measure => simp [intOf]; omega
        · rw [if_neg he, decide_eq_false he] at hcl
          go_wp2_with (go_at_call 63; refine hcl.mono ?_)
          rintro e w2 rfl hI2 hK2 hst
          have hvb : w2.heap[wr.heap.size]? = some (.cells #[.int .i64 x.id, .int .i64 x.ends, .string x.kind, .int .i64 x.nonce, .slice x.dat x.dln x.dcp, .int .i64 x.tag] 61 (0, 0)) := by
            rw [hst (by first | exact trivial | omega) wr.heap.size (by simp)]
            show (wr.heap.push _)[wr.heap.size]? = _
            rw [Array.getElem?_push_size]
          obtain ⟨y0, y1, y2, y3, y4, y5⟩ := WVat_kept (q4 i y hy) fun o => Kx_cell (Kx_trans hKO hK2) (o := o) hb hbi
          have v0 : w2.cell? ⟨wr.heap.size, 0, none⟩ = some (.int .i64 x.id) := by simp [World.cell?, hvb]
          have v1 : w2.cell? ⟨wr.heap.size, 1, none⟩ = some (.int .i64 x.ends) := by simp [World.cell?, hvb]
          have v2 : w2.cell? ⟨wr.heap.size, 2, none⟩ = some (.string x.kind) := by simp [World.cell?, hvb]
          have v3 : w2.cell? ⟨wr.heap.size, 3, none⟩ = some (.int .i64 x.nonce) := by simp [World.cell?, hvb]
          have v4 : w2.cell? ⟨wr.heap.size, 4, none⟩ = some (.slice x.dat x.dln x.dcp) := by simp [World.cell?, hvb]
          have v5 : w2.cell? ⟨wr.heap.size, 5, none⟩ = some (.int .i64 x.tag) := by simp [World.cell?, hvb]
          have hfr : ∀ o u, w2.cell? (at_ b o) = some u → off ≤ o → o < off + rows.length * 6 → w2.frozen? ⟨b, o, none⟩ = false := by
            intro o u hu h1 h2
            have hf := (hroom (o - off) (by have := h1; have := h2; omega)).2
            rw [show off + (o - off) = o by omega] at hf
            refine frozen_of hu ?_
            have e1 : w2.frz? (at_ b o) = wr.frz? (at_ b o) := (RowsK_heap (lo := 0) (hi := 0) ((Kx_trans hKO hK2).block b hb hbi)).frz o
            rw [e1, D.rk.frz o]
            exact hf
          have f0 := hfr _ _ y0 (by omega) (by omega)
          have f1 := hfr _ _ y1 (by omega) (by omega)
          have f2 := hfr _ _ y2 (by omega) (by omega)
          have f3 := hfr _ _ y3 (by omega) (by omega)
          have f4 := hfr _ _ y4 (by omega) (by omega)
          have f5 := hfr _ _ y5 (by omega) (by omega)
          clear hfr hvb
          go_wp2
          go_roundw
          case rel =>
            refine ⟨_, _, _, _, _, _, _, _, _, _, _, _, _, _, _, _, _, _, _, _, _, _, _, ⟨i + 1, j + 1, by go_num, by go_num, DfS_keep D hx (by omega) hI2 (Kx_trans hKO hK2) hb hbi⟩, rfl⟩
          case measure => simp [intOf]; omega
      · have hje : j = rows.length := by omega
        subst hje
        rw [List.take_length] at q2
        have hni : (rows.length - i) * 6 = rows.length * 6 - i * 6 := by omega
        have hil : i ≤ cur.length := by omega
        have hlen : (keptW now rows).length = i := by rw [← q2, List.length_take]; omega
        have hcl := run_clear_rows (P := Tryd.prog) wr 26 61 0 (.agg #[.int .i64 0, .int .i64 0, .string ⟨#[]⟩, .int .i64 0, .slice none 0 0, .int .i64 0]) Tryd.underlying26 Tryd.zeroValue61 (by intro u hu; simp [Value.cells] at hu; rcases hu with rfl | rfl | rfl | rfl | rfl | rfl <;> rfl) b (off + i * 6) (rows.length - i) (cap - i) (by omega) (by decide) (fun t ht => by
            have h6 : t < (rows.length - i) * 6 := ht
            have := D.rk.some (off + (i * 6 + t)) (hroom (i * 6 + t) (by omega)).1
            rw [Nat.add_assoc]; exact this) (fun t ht => by
            have h6 : t < (rows.length - i) * 6 := ht
            have h1 := D.rk.some (off + (i * 6 + t)) (hroom (i * 6 + t) (by omega)).1
            obtain ⟨u, hu⟩ := Option.isSome_iff_exists.1 h1
            rw [Nat.add_assoc]
            exact frozen_of hu ((D.rk.frz _).trans (hroom (i * 6 + t) (by omega)).2))
        obtain ⟨zs, hzs⟩ : ∃ zs, (Builtin.zeroCells (Value.agg #[.int .i64 0, .int .i64 0, .string ⟨#[]⟩, .int .i64 0, .slice none 0 0, .int .i64 0]).cells (rows.length - i)).toList = zs := ⟨_, rfl⟩
        have hzl : zs.length = (rows.length - i) * 6 := by rw [← hzs]; simp [Builtin.zeroCells, Value.cells]
        rw [hzs] at hcl
        obtain ⟨s1, s2, s3, s4, s5⟩ := setCells_all b zs (off + i * 6) wr
        have hout : ∀ y, y < off + i * 6 ∨ off + rows.length * 6 ≤ y → (wr.setCells b (off + i * 6) zs).cell? ⟨b, y, none⟩ = wr.cell? ⟨b, y, none⟩ := fun y hy =>
          World.cell?_setCells_out b zs _ wr _ fun _ _ => by
            show y < off + i * 6 ∨ off + i * 6 + zs.length ≤ y
            omega
        have hsm : ∀ y, (wr.cell? ⟨b, y, none⟩).isSome = true → ((wr.setCells b (off + i * 6) zs).cell? ⟨b, y, none⟩).isSome = true := fun y hy => World.isSome_setCells b zs _ wr _ hy
        have hic : i ≤ cap := by omega
        go_wp2
        go_ret
        rw [hlen]
        refine ⟨rfl, ?_, ?_, ?_, fun k x hx => ?_⟩
        · have hids := D.ids
          rw [List.take_length] at hids
          refine IdsAt_kept hids fun k hk _ => s1 k ?_
          rcases hk with rfl | hk
          · exact fun e => hbi e.symm
          · omega
        · exact Kx_trans D.kx ⟨s4, s5, by rw [s3]; exact Nat.le_refl _, fun k hk hkx => s1 k fun e => hkx (.inr e)⟩
        · refine RowsK_trans D.rk ⟨fun y hy => hout y (by omega), fun y => s2 _, fun y hy => hsm y hy⟩
        · have hki : k < i := by rw [← hlen]; exact (List.getElem?_eq_some_iff.1 hx).1
          rw [← q2, List.getElem?_take_of_lt hki] at hx
          have hw := q4 k x hx
          unfold WVat at hw ⊢
          rw [hout _ (by omega), hout _ (by omega), hout _ (by omega), hout _ (by omega), hout _ (by omega), hout _ (by omega)]
          exact hw
  · go_wp2
    go_ret
    obtain ⟨e1, e2⟩ := keptW_lasts hall
    rw [e1, e2]
    exact ⟨rfl, hI1, Kx_mono hK1 fun k h => .inl h, RowsK_heap (hK1.block b hb hbi), fun k x hx => WVat_kept (hc k x hx) fun o => Kx_cell hK1 hb hbi⟩

def endedG (now : Int) (x : GWrap) : Bool := decide (x.fEnds ≤ now)

def keptG (now : Int) (l : List GWrap) : List GWrap := l.filter fun x => !endedG now x

def goneG (now : Int) (l : List GWrap) : List Int := (l.filter (endedG now)).map GWrap.fId

theorem own_perm2 {w w' : World} {Fz : PSet} {k sz b off cap : Nat} {rows rows' : List (List D)} {T : Nat → PSet} (σ : Nat → Nat)
    (h1 : rows'.length ≤ cap) (hrow' : ∀ r, r ∈ rows' → r.length = sz) (h4 : ∀ m d, rows.flatten[m]? = some d → ∃ u, w.cell? (at_ b (off + m)) = some u ∧ Own w Fz k u d (T m)) (hd : Disj rows.flatten.length T)
    (h6 : ∀ m, m < rows.flatten.length → ∀ x y, rng b off (cap * sz) x y → ¬ T m x y)
    (hσ : ∀ m d, rows'.flatten[m]? = some d → rows.flatten[σ m]? = some d ∧ w'.cell? (at_ b (off + m)) = w.cell? (at_ b (off + σ m))) (hinj : ∀ m n, m < rows'.flatten.length → n < rows'.flatten.length → m ≠ n → σ m ≠ σ n)
    (hkF : Keeps w w' Fz) (hkT : ∀ m, m < rows.flatten.length → Keeps w w' (T m)) (hroom' : Room w' b off (cap * sz)) :
    Own w' Fz (k + 1) (.slice (some (at_ b off)) rows'.length cap) (.slc sz rows') (fun x y => rng b off (cap * sz) x y ∨ ∃ m, m < rows'.flatten.length ∧ T (σ m) x y) := by
  have hlt : ∀ m, m < rows'.flatten.length → σ m < rows.flatten.length := fun m hm => (List.getElem?_eq_some_iff.1 (hσ m _ (List.getElem?_eq_getElem hm)).1).1
  refine .inr ⟨b, off, cap, fun m => T (σ m), rfl, h1, hroom', hrow', ?_, ?_, ?_, fun x y => Iff.rfl⟩
  · intro m d hm
    obtain ⟨e1, e2⟩ := hσ m d hm
    obtain ⟨u, hu, ho⟩ := h4 _ _ e1
    exact ⟨u, e2.trans hu, ho.mono (fun _ _ h => h) hkF k (hkT _ (List.getElem?_eq_some_iff.1 e1).1)⟩
  · intro m n hm hn hne
    exact hd _ _ (hlt m hm) (hlt n hn) (hinj m n hm hn hne)
  · intro m hm x y hr
    exact h6 _ (hlt m hm) x y hr

/-- A wrap's values, from what its cells read as. -/
def SameW (x : GWrap) (y : WV) : Prop := y.id = x.fId ∧ y.ends = x.fEnds

theorem own_slice {w : World} {Fz S : PSet} {k sz : Nat} {v : Value} {rows : List (List D)} (h : Own w Fz (k + 1) v (.slc sz rows) S) : ∃ (a : Option Addr) (n c : Nat), v = .slice a n c := by
  rcases h with ⟨rfl, _⟩ | ⟨b, off, cap, T, rfl, _⟩
  · exact ⟨_, _, _, rfl⟩
  · exact ⟨_, _, _, rfl⟩

theorem wv_of {w : World} {Fz : PSet} {b o : Nat} {x : GWrap} (h : ∀ j d, x.row[j]? = some d → ∃ u S, w.cell? (at_ b (o + j)) = some u ∧ Own w Fz 1 u d S) : ∃ y : WV, SameW x y ∧ WVat w b o y := by
  obtain ⟨u0, _, c0, h0⟩ := h 0 _ rfl
  obtain ⟨u1, _, c1, h1⟩ := h 1 _ rfl
  obtain ⟨u2, _, c2, h2⟩ := h 2 _ rfl
  obtain ⟨u3, _, c3, h3⟩ := h 3 _ rfl
  obtain ⟨u4, _, c4, h4⟩ := h 4 _ rfl
  obtain ⟨u5, _, c5, h5⟩ := h 5 _ rfl
  obtain ⟨a, n, c, rfl⟩ := own_slice h4
  have h0 := h0.1
  have h1 := h1.1
  have h2 := h2.1
  have h3 := h3.1
  have h5 := h5.1
  cases h0
  cases h1
  cases h2
  cases h3
  cases h5
  exact ⟨⟨x.fId, x.fEnds, ⟨x.fKind.toArray⟩, x.fBox.fNonce, a, n, c, x.fBox.fTag⟩, ⟨rfl, rfl⟩, c0, c1, c2, c3, c4, c5⟩

theorem flat_rWrap (a : List GWrap) {k : Nat} {x : GWrap} (h : a[k]? = some x) (j : Nat) (hj : j < 6) : (rWrap a).flatten[k * 6 + j]? = x.row[j]? := by
  induction a generalizing k with
  | nil => simp at h
  | cons y a ih =>
    have e : (rWrap (y :: a)).flatten = y.row ++ (rWrap a).flatten := rfl
    rw [e]
    cases k with
    | zero => simp at h; subst h; rw [List.getElem?_append_left (by simp; omega)]; simp
    | succ k =>
      rw [List.getElem?_append_right (by simp; omega)]
      have := ih (by simpa using h)
      rw [← this]
      congr 1
      simp; omega

theorem flat_rWrap_len (a : List GWrap) : (rWrap a).flatten.length = a.length * 6 := by
  induction a with
  | nil => rfl
  | cons x a ih =>
    have e : (rWrap (x :: a)).flatten = x.row ++ (rWrap a).flatten := rfl
    rw [e, List.length_append, ih]
    simp; omega

/-- Two rows of wraps, the same but for the form. -/
def Sames (l : List GWrap) (r : List WV) : Prop := l.length = r.length ∧ ∀ (k : Nat) x y, l[k]? = some x → r[k]? = some y → SameW x y

theorem Sames_tail {x : GWrap} {y : WV} {l : List GWrap} {r : List WV} (h : Sames (x :: l) (y :: r)) : SameW x y ∧ Sames l r :=
  ⟨h.2 0 x y rfl rfl, by simpa using h.1, fun k a b ha hb => h.2 (k + 1) a b (by simpa using ha) (by simpa using hb)⟩

theorem sames_gone {now : Int} : ∀ {l : List GWrap} {r : List WV}, Sames l r → goneW now r = goneG now l ∧ (keptW now r).length = (keptG now l).length := by
  intro l
  induction l with
  | nil =>
    intro r h
    have : r = [] := List.length_eq_zero_iff.1 h.1.symm
    subst this
    exact ⟨rfl, rfl⟩
  | cons x l ih =>
    intro r h
    cases r with
    | nil => simp [Sames] at h
    | cons y r =>
      obtain ⟨⟨h1, h2⟩, ht⟩ := Sames_tail h
      obtain ⟨i1, i2⟩ := ih ht
      unfold goneW goneG at i1 ⊢
      unfold keptW keptG at i2 ⊢
      have e : endedW now y = endedG now x := by simp [endedW, endedG, h2]
      cases hb : endedG now x with
      | true => rw [hb] at e; simp [List.filter_cons, e, hb, i1, i2, h1]
      | false => rw [hb] at e; simp [List.filter_cons, e, hb, i1, i2]

theorem sames_place {now : Int} : ∀ {l : List GWrap} {r : List WV}, Sames l r → ∃ ρ : Nat → Nat, (∀ m n, m ≠ n → ρ m ≠ ρ n) ∧ (∀ k x, (keptG now l)[k]? = some x → l[ρ k]? = some x) ∧ ∀ k y, (keptW now r)[k]? = some y → r[ρ k]? = some y := by
  intro l
  induction l with
  | nil =>
    intro r h
    have : r = [] := List.length_eq_zero_iff.1 h.1.symm
    subst this
    exact ⟨id, fun m n h => h, fun k x hx => by simp [keptG] at hx, fun k x hx => by simp [keptW] at hx⟩
  | cons x l ih =>
    intro r h
    cases r with
    | nil => simp [Sames] at h
    | cons y r =>
      obtain ⟨⟨h1, h2⟩, ht⟩ := Sames_tail h
      obtain ⟨ρ, i1, i2, i3⟩ := ih ht
      have e : endedW now y = endedG now x := by simp [endedW, endedG, h2]
      cases hb : endedG now x with
      | true =>
        rw [hb] at e
        refine ⟨fun k => ρ k + 1, fun m n hmn => by have := i1 m n hmn; show ρ m + 1 ≠ ρ n + 1; omega, fun k z hz => ?_, fun k z hz => ?_⟩
        · have : keptG now (x :: l) = keptG now l := by simp [keptG, hb]
          rw [this] at hz
          simpa using i2 k z hz
        · have : keptW now (y :: r) = keptW now r := by simp [keptW, e]
          rw [this] at hz
          simpa using i3 k z hz
      | false =>
        rw [hb] at e
        refine ⟨fun k => match k with | 0 => 0 | k + 1 => ρ k + 1, fun m n hmn => ?_, fun k z hz => ?_, fun k z hz => ?_⟩
        · cases m with
          | zero => cases n with
            | zero => exact absurd rfl hmn
            | succ n => simp
          | succ m => cases n with
            | zero => simp
            | succ n => have := i1 m n (by omega); simp; omega
        · have : keptG now (x :: l) = x :: keptG now l := by simp [keptG, hb]
          rw [this] at hz
          cases k with
          | zero => simpa using hz
          | succ k => simpa using i2 k z (by simpa using hz)
        · have : keptW now (y :: r) = y :: keptW now r := by simp [keptW, e]
          rw [this] at hz
          cases k with
          | zero => simpa using hz
          | succ k => simpa using i3 k z (by simpa using hz)

theorem wv_cell {w w' : World} {b o o' : Nat} {y : WV} (h : WVat w' b o y) (h' : WVat w b o' y) (c : Nat) (hc : c < 6) : w'.cell? (at_ b (o + c)) = w.cell? (at_ b (o' + c)) := by
  obtain ⟨a0, a1, a2, a3, a4, a5⟩ := h
  obtain ⟨b0, b1, b2, b3, b4, b5⟩ := h'
  match c, hc with
  | 0, _ => exact a0.trans b0.symm
  | 1, _ => exact a1.trans b1.symm
  | 2, _ => exact a2.trans b2.symm
  | 3, _ => exact a3.trans b3.symm
  | 4, _ => exact a4.trans b4.symm
  | 5, _ => exact a5.trans b5.symm

/-- The values of a row of wraps that is owned. -/
theorem wvs_of {w : World} {b off : Nat} (l : List GWrap) (h : ∀ (k : Nat) x, l[k]? = some x → ∃ y : WV, SameW x y ∧ WVat w b (off + k * 6) y) :
    ∃ r : List WV, Sames l r ∧ ∀ (k : Nat) y, r[k]? = some y → WVat w b (off + k * 6) y := by
  have hc : ∀ k, ∃ y : WV, ∀ x, l[k]? = some x → SameW x y ∧ WVat w b (off + k * 6) y := by
    intro k
    cases hk : l[k]? with
    | none => exact ⟨⟨0, 0, ⟨#[]⟩, 0, none, 0, 0, 0⟩, fun x hx => by cases hx⟩
    | some x =>
      obtain ⟨y, hy⟩ := h k x hk
      exact ⟨y, fun x' hx' => by cases hx'; exact hy⟩
  refine ⟨(List.range l.length).map fun k => Classical.choose (hc k), ⟨by simp, fun k x y hx hy => ?_⟩, fun k y hy => ?_⟩
  · rw [List.getElem?_map] at hy
    obtain ⟨k', hk', rfl⟩ := Option.map_eq_some_iff.1 hy
    have : k' = k := by
      have := (List.getElem?_eq_some_iff.1 hk').2
      simpa using this.symm
    subst this
    exact (Classical.choose_spec (hc k') x hx).1
  · rw [List.getElem?_map] at hy
    obtain ⟨k', hk', rfl⟩ := Option.map_eq_some_iff.1 hy
    obtain ⟨hlt, he⟩ := List.getElem?_eq_some_iff.1 hk'
    have : k' = k := by simpa using he.symm
    subst this
    have hl : k' < l.length := by simpa using hlt
    have hx := List.getElem?_eq_getElem hl
    exact (Classical.choose_spec (hc k') _ hx).2

set_option maxHeartbeats 4000000 in
set_option maxRecDepth 1000000 in
open Go.RowKit in
theorem idx_empty (ao : Option Addr) (cap : Nat) (fv : Value) (w : World) : Calls PP 74 #[.slice ao 0 cap, fv] w fun e w' => e = .returned (.int .i64 (-1)) ∧ w' = w := by
  unfold PP
  go_enter Tryd.func74, Tryd.ntmps74
  go_wp2
  go_loopw [8] (fun s wr => s = .int .i64 0 ∧ wr = w) (fun _ _ => 0)
  case atStart => exact ⟨rfl, rfl⟩
  case round =>
    obtain ⟨rfl, rfl⟩ := hrel
    go_wp2
    go_ret
    first | exact ⟨rfl, rfl⟩ | trivial

set_option maxHeartbeats 4000000 in
set_option maxRecDepth 1000000 in
open Go.RowKit in
theorem df_empty (ao : Option Addr) (cap : Nat) (fv : Value) (w : World) : Calls PP 62 #[.slice ao 0 cap, fv] w fun e w' => e = .returned (.slice ao 0 cap) ∧ w' = w := by
  unfold PP
  go_enter Tryd.func62, Tryd.ntmps62
  go_wp2_with (go_at_call 74; refine (idx_empty ao cap fv w).mono ?_)
  rintro e w1 ⟨rfl, rfl⟩
  go_wp2
  go_ret
  first | exact ⟨rfl, rfl⟩ | trivial

/-- slices.DeleteFunc with the closure of sweepWraps, on a row of wraps that is owned. -/
theorem df_own (B Bn Bi : Nat) (now : Int) (l : List GWrap) (v : Value) (Fz S : PSet) (w : World) (hBn : Bn < B) (hBi : Bi < B) (hne : Bn ≠ Bi) (hB : B ≤ w.heap.size) (hn : w.cell? ⟨Bn, 0, none⟩ = some (.int .i64 now))
    (hown : Own w Fz 2 v (.slc 6 (rWrap l)) S) (hi : IdsAt B Bi [] w) (hl : l.length ≤ 1048576) (hSB : ∀ x y, S x y → x < B ∧ x ≠ Bi ∧ x ≠ Bn) (hFB : ∀ x y, Fz x y → x < B ∧ x ≠ Bi) (hSF : ∀ x y, S x y → ¬ Fz x y) :
    Calls PP 62 #[v, .func (.func 63) #[] #[.pointer (some ⟨Bn, 0, none⟩), .pointer (some ⟨Bi, 0, none⟩)]] w fun e w' =>
      ∃ (a : Option Addr) (n c : Nat) (S' : PSet), e = .returned (.slice a n c) ∧ Own w' Fz 2 (.slice a n c) (.slc 6 (rWrap (keptG now l))) S' ∧ (∀ x y, S' x y → S x y) ∧ IdsAt B Bi (goneG now l) w' ∧
        Kx B (fun k => k = Bi ∨ ∃ y, S k y) w w' ∧ Keeps w w' Fz := by
  rcases hown with ⟨rfl, he, hS⟩ | ⟨b, off, cap, T, rfl, h1, h2, h3, h4, h5, h6, h7⟩
  · have : l = [] := by cases l with | nil => rfl | cons => simp [rWrap] at he
    subst this
    refine (df_empty none 0 _ w).mono ?_
    rintro e w' ⟨rfl, rfl⟩
    exact ⟨none, 0, 0, S, rfl, .inl ⟨rfl, rfl, hS⟩, fun _ _ h => h, hi, Kx_refl _ _ _, Keeps.refl _ _⟩
  · rw [rWrap_len] at h1 ⊢
    by_cases h0 : l = []
    · subst h0
      refine (df_empty (some (at_ b off)) cap _ w).mono ?_
      rintro e w' ⟨rfl, rfl⟩
      exact ⟨some (at_ b off), 0, cap, S, rfl, .inr ⟨b, off, cap, T, rfl, h1, h2, h3, h4, h5, h6, h7⟩, fun _ _ h => h, hi, Kx_refl _ _ _, Keeps.refl _ _⟩
    have hlp : 0 < l.length := List.length_pos_iff.2 h0
    have hbS : S b off := (h7 b off).2 (.inl ⟨rfl, Nat.le_refl _, by omega⟩)
    obtain ⟨hbB, hbi, hbn⟩ := hSB b off hbS
    obtain ⟨r, hs, hr⟩ := wvs_of (w := w) (b := b) (off := off) l fun k x hx => wv_of (Fz := Fz) fun j d hj => by
      have hj6 : j < 6 := by have := (List.getElem?_eq_some_iff.1 hj).1; simpa using this
      obtain ⟨u, hu, ho⟩ := h4 (k * 6 + j) d ((flat_rWrap l hx j hj6).trans hj)
      exact ⟨u, _, by rw [← Nat.add_assoc] at hu; exact hu, ho⟩
    have hrl := hs.1
    have hcap6 : l.length * 6 ≤ cap * 6 := Nat.mul_le_mul_right 6 h1
    have key := df_walk B Bn Bi now r b off cap w hBn hBi hne hbB hbi hbn hB hn hr hi (by omega) (by omega) fun t ht => by
      obtain ⟨⟨u, hu⟩, hf⟩ := h2 t (by omega)
      exact ⟨by rw [hu]; rfl, hf⟩
    rw [← hrl] at key
    refine key.mono ?_
    rintro e w' ⟨rfl, hI, hK, hRK, hW⟩
    obtain ⟨g1, g2⟩ := sames_gone (now := now) hs
    obtain ⟨ρ, r1, r2, r3⟩ := sames_place (now := now) hs
    rw [g1] at hI
    rw [g2]
    have hkT : ∀ m, m < (rWrap l).flatten.length → Keeps w w' (T m) := by
      intro m hm x y hx
      have hSx : S x y := (h7 x y).2 (.inr ⟨m, hm, hx⟩)
      obtain ⟨q1, q2, q3⟩ := hSB x y hSx
      by_cases hxb : x = b
      · subst hxb
        have hnr : ¬ (off ≤ y ∧ y < off + l.length * 6) := fun h => h6 m hm x y ⟨rfl, h.1, by omega⟩ hx
        exact ⟨hRK.out y hnr, hRK.frz y⟩
      · exact keep_of_heap (hK.block x q1 (by rintro (h | h); exact q2 h; exact hxb h)) y
    have hkF : Keeps w w' Fz := by
      intro x y hx
      obtain ⟨q1, q2⟩ := hFB x y hx
      by_cases hxb : x = b
      · subst hxb
        have hnr : ¬ (off ≤ y ∧ y < off + l.length * 6) := fun h => hSF x y ((h7 x y).2 (.inl ⟨rfl, h.1, by omega⟩)) hx
        exact ⟨hRK.out y hnr, hRK.frz y⟩
      · exact keep_of_heap (hK.block x q1 (by rintro (h | h); exact q2 h; exact hxb h)) y
    have hroom' : Room w' b off (cap * 6) := by
      intro o ho
      obtain ⟨⟨u, hu⟩, hf⟩ := h2 o ho
      exact ⟨Option.isSome_iff_exists.1 (hRK.some _ (by rw [hu]; rfl)), (hRK.frz _).trans hf⟩
    have hkl : (keptG now l).length ≤ l.length := List.length_filter_le _ _
    have hkf := flat_rWrap_len (keptG now l)
    have hown' := own_perm2 (w := w) (w' := w') (Fz := Fz) (k := 1) (sz := 6) (b := b) (off := off) (cap := cap) (rows := rWrap l) (rows' := rWrap (keptG now l)) (T := T)
      (fun m => ρ (m / 6) * 6 + m % 6) (by rw [rWrap_len]; omega) (rWrap_row _) h4 h5 h6 (fun m d hd => ?_) (fun m n hm hn hne => ?_) hkF hkT hroom'
    · rw [rWrap_len] at hown'
      exact ⟨some (at_ b off), (keptG now l).length, cap, _, rfl, hown', fun x y hx => by
        rcases hx with hx | ⟨m, hm, hx⟩
        · exact (h7 x y).2 (.inl hx)
        · refine (h7 x y).2 (.inr ⟨_, ?_, hx⟩)
          rw [hkf] at hm
          have hk : m / 6 < (keptG now l).length := by omega
          have := (List.getElem?_eq_some_iff.1 (r2 (m / 6) _ (List.getElem?_eq_getElem hk))).1
          rw [flat_rWrap_len]; omega, hI, Kx_mono hK (by
        rintro k (rfl | rfl)
        · exact .inl rfl
        · exact .inr ⟨off, hbS⟩), hkF⟩
    · have hm := (List.getElem?_eq_some_iff.1 hd).1
      rw [hkf] at hm
      have hk : m / 6 < (keptG now l).length := by omega
      have hx := List.getElem?_eq_getElem hk
      generalize (keptG now l)[m / 6] = x at hx
      have e6 : m / 6 * 6 + m % 6 = m := by omega
      have hd' := flat_rWrap (keptG now l) hx (m % 6) (by omega)
      rw [e6, hd] at hd'
      have hlx := r2 (m / 6) x hx
      refine ⟨(flat_rWrap l hlx (m % 6) (by omega)).trans hd'.symm, ?_⟩
      have hkw : m / 6 < (keptW now r).length := by rw [g2]; exact hk
      have hy := List.getElem?_eq_getElem hkw
      generalize (keptW now r)[m / 6] = y at hy
      have a1 := hW (m / 6) y hy
      have a2 := hr (ρ (m / 6)) y (r3 (m / 6) y hy)
      have c := wv_cell a1 a2 (m % 6) (by omega)
      rw [Nat.add_assoc, e6, Nat.add_assoc] at c
      exact c
    · rw [hkf] at hm hn
      by_cases h : m / 6 = n / 6
      · rw [h]; omega
      · have := r1 _ _ h
        omega

/-- What cloning a rack's wraps leaves. -/
def CloneR (r : GRack) (Fz : PSet) (w w' : World) (v : Value) : Prop :=
  ∃ (Fz' S : PSet), Own w' Fz' 2 v (.slc 6 (rWrap r.fWraps)) S ∧ (∀ x y, S x y → w.heap.size ≤ x ∧ x < w'.heap.size ∧ ¬ Fz' x y) ∧ (∀ x y, Fz x y → Fz' x y) ∧ (∀ x y, Fz' x y → (Fz x y ∨ w.heap.size ≤ x) ∧ x < w'.heap.size) ∧
    (w'.os = w.os ∧ w'.output = w.output ∧ w.heap.size ≤ w'.heap.size ∧ ∀ k, k < w.heap.size → w'.heap[k]? = w.heap[k]?)

theorem clone_walk {GG : GV} (r : GRack) (hc : r.cost ≤ 1048576) (w : World) (Fz : PSet) (v : Value) (hG : ∀ b p, GG b = some p → (∀ o, Fz b o) ∧ ∃ ob, w.heap[b]? = some ob ∧ p ob) (hFz : ∀ b o, Fz b o → b < w.heap.size) (hv : Shr w Fz v (.slc 6 (rWrap r.fWraps))) :
    Calls PP F_I_cloneRack #[.agg #[.int .i64 r.fKey, .int .i64 r.fNext, v]] w fun e w' => ∃ (a : Option Addr) (n c : Nat), e = .returned (.agg #[.int .i64 r.fKey, .int .i64 r.fNext, .slice a n c]) ∧ CloneR r Fz w w' (.slice a n c) := by
  refine ((cloneRack_ok (GG := GG) r hc).2 w #[.agg #[.int .i64 r.fKey, .int .i64 r.fNext, v]] Fz (fun _ _ _ => False) hG hFz ⟨rfl, fun m c' hm => ?_, fun _ _ _ _ _ _ _ h => h.elim⟩ (fun _ _ _ _ h => h.elim)).mono ?_
  · match m, hm with
    | 0, hm =>
      cases hm
      refine .agg _ _ (fun _ _ _ => False) _ rfl (fun m c hm => ?_) (fun m c hm => ?_) (fun _ _ _ _ _ _ _ h => h.elim) (fun x y => ⟨fun h => h.elim, fun ⟨_, _, h⟩ => h⟩)
      · match m, hm with
        | 0, _ => rfl
        | 1, _ => rfl
        | 2, _ => exact hv.one
        | m + 3, hm => simp at hm
      · match m, hm with
        | 0, hm => cases hm; exact .d _ _ _ (.int _ _) fun _ _ h => h
        | 1, hm => cases hm; exact .d _ _ _ (.int _ _) fun _ _ h => h
        | 2, hm => cases hm; exact .d _ _ _ hv fun _ _ h => h
        | m + 3, hm => simp at hm
    | m + 1, hm => simp at hm
  · rintro e w' ⟨v', Fz', U', rfl, hp⟩
    have hr := hp.res
    have hmine := hp.mine 0
    generalize U' 0 = S0 at hr hmine
    cases hr with
    | agg _ vs T _ hl h1 hs hd hS =>
      have q0 := hs 0 _ rfl
      have q1 := hs 1 _ rfl
      have q2 := hs 2 _ rfl
      have e1 : vs = #[vs.getD 0 Go.undef, vs.getD 1 Go.undef, vs.getD 2 Go.undef] := by
        apply Array.ext
        · simpa using hl
        · intro i h1 h2
          simp at hl h2
          match i, h2 with
          | 0, _ => simp [hl]
          | 1, _ => simp [hl]
          | 2, _ => simp [hl]
      generalize vs.getD 0 Go.undef = v0 at *
      generalize vs.getD 1 Go.undef = v1 at *
      generalize vs.getD 2 Go.undef = v2 at *
      have hT2 : ∀ x y, T 2 x y → S0 x y := fun x y h => (hS x y).2 ⟨2, by simp, h⟩
      generalize T 0 = T0 at q0
      generalize T 1 = T1 at q1
      generalize T 2 = T2 at q2 hT2
      cases q0 with | d _ _ _ q0 _ => ?_
      cases q1 with | d _ _ _ q1 _ => ?_
      cases q2 with | own _ _ _ _ _ q2 => ?_
      cases q0
      cases q1
      obtain ⟨a, n, c, rfl⟩ := own_slice q2
      rw [e1]
      refine ⟨a, n, c, rfl, Fz', T2, q2, fun x y h => ?_, hp.fz, fun x y h => ⟨?_, hp.fzlt x y h⟩, hp.side.1, hp.side.2, hp.size, fun k hk => hp.blk k hk fun o ⟨_, _, h⟩ => h⟩
      · obtain ⟨m1, m2, m3⟩ := hmine x y (hT2 x y h)
        rcases m1 with ⟨_, _, h⟩ | m1
        · exact h.elim
        · exact ⟨m1, m3, m2⟩
      · rcases hp.fzof x y h with h | ⟨_, _, h⟩ | h
        · exact .inl h
        · exact h.elim
        · exact .inr h

/-- What striking the ended wraps leaves. -/
def DfR (B Bi : Nat) (now : Int) (l : List GWrap) (Fz S : PSet) (w w' : World) (v : Value) : Prop :=
  ∃ S' : PSet, Own w' Fz 2 v (.slc 6 (rWrap (keptG now l))) S' ∧ (∀ x y, S' x y → S x y) ∧ IdsAt B Bi (goneG now l) w' ∧ Kx B (fun k => k = Bi ∨ ∃ y, S k y) w w' ∧ Keeps w w' Fz

theorem ints_flatW (l : List Int) : (intsD l).flatten = l.map (D.int .i64) := by
  induction l with
  | nil => rfl
  | cons x l ih => simp only [intsD, List.map_cons, List.flatten_cons] at ih ⊢; rw [ih]; rfl

theorem ids_own {B : Nat} {l : List Int} {v : Value} {w : World} {Fz : PSet} (h : w.ownsRow B 3 1 v l.length (l.map (Value.int .i64))) :
    (∃ (a : Option Addr) (n c : Nat), v = .slice a n c) ∧ ∃ S : PSet, Own w Fz 1 v (.slc 1 (intsD l)) S ∧ ∀ x y, S x y → B ≤ x ∧ x < w.heap.size := by
  rcases h.2 with ⟨rfl, h0⟩ | ⟨g, cap, cur, rfl, hg, hgg, hn, hm, hs, ht⟩
  · have : l = [] := List.length_eq_zero_iff.1 h0
    subst this
    exact ⟨⟨_, _, _, rfl⟩, fun _ _ => False, .inl ⟨rfl, rfl, fun _ _ h => h⟩, fun _ _ h => h.elim⟩
  · have hfl := ints_flatW l
    have hil : (intsD l).length = l.length := by simp [intsD]
    refine ⟨⟨_, _, _, rfl⟩, rng g 0 cap, .inr ⟨g, 0, cap, fun _ _ _ => False, by rw [hil], by rw [hil]; exact hn, ?_, ?_, ?_, fun _ _ _ _ _ _ _ h => h.elim, fun _ _ _ _ _ h => h.elim, fun x y => ⟨fun h => .inl (by simpa using h), fun h => h.elim (fun h => by simpa using h) fun ⟨_, _, h⟩ => h.elim⟩⟩, ?_⟩
    · intro o ho
      refine ⟨⟨cur[o]'(by omega), ?_⟩, ?_⟩
      · simp [World.cell?, at_, hgg]
      · simp [World.frz?, at_, hgg]
    · intro row hr
      simp only [intsD, List.mem_map] at hr
      obtain ⟨_, _, rfl⟩ := hr
      rfl
    · intro m d hd
      rw [hfl, List.getElem?_map] at hd
      obtain ⟨z, hz, rfl⟩ := Option.map_eq_some_iff.1 hd
      refine ⟨.int .i64 z, ?_, .int _ _, fun _ _ h => h⟩
      have h1 : (cur.toList.take (l.length * 1))[m]? = some (.int .i64 z) := by rw [ht, List.getElem?_map, hz]; rfl
      have hml := (List.getElem?_eq_some_iff.1 hz).1
      rw [List.getElem?_take_of_lt (by omega)] at h1
      simp only [World.cell?, at_, hgg, Nat.zero_add]
      simpa using h1
    · rintro x y ⟨rfl, _, _⟩
      exact ⟨hg, (Array.getElem?_eq_some_iff.1 hgg).1⟩

/-- What sweepWraps leaves. -/
def SweepR (r : GRack) (now : Int) (Fz : PSet) (w w' : World) (v u : Value) : Prop :=
  ∃ (Fz' S S2 : PSet), Own w' Fz' 2 v (.slc 6 (rWrap (keptG now r.fWraps))) S ∧ Own w' Fz' 1 u (.slc 1 (intsD (goneG now r.fWraps))) S2 ∧ (∀ x y, S x y → ¬ S2 x y) ∧ (∀ x y, S x y ∨ S2 x y → w.heap.size ≤ x ∧ x < w'.heap.size ∧ ¬ Fz' x y) ∧
    (∀ x y, Fz x y → Fz' x y) ∧ (∀ x y, Fz' x y → (Fz x y ∨ w.heap.size ≤ x) ∧ x < w'.heap.size) ∧ (w'.os = w.os ∧ w'.output = w.output ∧ w.heap.size ≤ w'.heap.size ∧ ∀ k, k < w.heap.size → w'.heap[k]? = w.heap[k]?)

set_option maxHeartbeats 4000000 in
set_option maxRecDepth 1000000 in
open Go.RowKit in
theorem sweep_walk {GG : GV} (r : GRack) (now : Int) (hc : r.cost ≤ 1048576) (hlen : r.fWraps.length ≤ 1048576) (w : World) (Fz : PSet) (a0 : Option Addr) (m0 c0 : Nat) (hG : ∀ b p, GG b = some p → (∀ o, Fz b o) ∧ ∃ ob, w.heap[b]? = some ob ∧ p ob) (hFz : ∀ b o, Fz b o → b < w.heap.size) (hv : Shr w Fz (.slice a0 m0 c0) (.slc 6 (rWrap r.fWraps))) :
    Calls PP 34 #[.agg #[.int .i64 r.fKey, .int .i64 r.fNext, .slice a0 m0 c0], .int .i64 now] w fun e w' => ∃ (a : Option Addr) (n c : Nat) (a' : Option Addr) (n' c' : Nat),
      e = .returned (.tuple #[.agg #[.int .i64 r.fKey, .int .i64 r.fNext, .slice a n c], .slice a' n' c']) ∧ SweepR r now Fz w w' (.slice a n c) (.slice a' n' c') := by
  obtain ⟨A, hA⟩ : ∃ A : Obj, A = .cells #[.int .i64 r.fKey, .int .i64 r.fNext, .slice a0 m0 c0] 28 := ⟨_, rfl⟩
  obtain ⟨B, hB⟩ : ∃ A : Obj, A = .cells #[.int .i64 now] 3 := ⟨_, rfl⟩
  obtain ⟨C, hC⟩ : ∃ A : Obj, A = .cells #[.int .i64 0, .int .i64 0, .slice none 0 0] 28 := ⟨_, rfl⟩
  obtain ⟨D, hD⟩ : ∃ A : Obj, A = .cells #[.slice none 0 0] 29 := ⟨_, rfl⟩
  have hb4 : ∀ k, k < w.heap.size → ((((w.alloc A).alloc B).alloc C).alloc D).heap[k]? = w.heap[k]? := fun k hk => by
    rw [heap_alloc_old _ _ (by simp; omega), heap_alloc_old _ _ (by simp; omega), heap_alloc_old _ _ (by simp; omega), heap_alloc_old _ _ hk]
  have hkF : Keeps w ((((w.alloc A).alloc B).alloc C).alloc D) Fz := fun b o h => keep_of_heap (hb4 b (hFz b o h)) o
  have hcl := clone_walk (GG := GG) r hc ((((w.alloc A).alloc B).alloc C).alloc D) Fz (.slice a0 m0 c0) (fun b p h => by
    obtain ⟨h1, ob, h2, h3⟩ := hG b p h
    exact ⟨h1, ob, (hb4 b (hFz b 0 (h1 0))).trans h2, h3⟩) (fun b o h => by have := hFz b o h; simp; omega) (hv.mono (fun b o h => (hkF b o h).1) fun _ _ h => h)
  have p1 : ((((w.alloc A).alloc B).alloc C).alloc D).heap[w.heap.size + 1]? = some (.cells #[.int .i64 now] 3 (0, 0)) := by
    rw [heap_alloc_old _ _ (by simp), heap_alloc_old _ _ (by simp), ← hB]
    show ((w.alloc A).heap.push B)[w.heap.size + 1]? = some B
    rw [show w.heap.size + 1 = (w.alloc A).heap.size by simp, Array.getElem?_push_size]
  have p2 : ((((w.alloc A).alloc B).alloc C).alloc D).heap[w.heap.size + 2]? = some (.cells #[.int .i64 0, .int .i64 0, .slice none 0 0] 28 (0, 0)) := by
    rw [heap_alloc_old _ _ (by simp), ← hC]
    show (((w.alloc A).alloc B).heap.push C)[w.heap.size + 2]? = some C
    rw [show w.heap.size + 2 = ((w.alloc A).alloc B).heap.size by simp, Array.getElem?_push_size]
  have p3 : ((((w.alloc A).alloc B).alloc C).alloc D).heap[w.heap.size + 3]? = some (.cells #[.slice none 0 0] 29 (0, 0)) := by
    rw [← hD]
    show ((((w.alloc A).alloc B).alloc C).heap.push D)[w.heap.size + 3]? = some D
    rw [show w.heap.size + 3 = (((w.alloc A).alloc B).alloc C).heap.size by simp, Array.getElem?_push_size]
  have sz4 : ((((w.alloc A).alloc B).alloc C).alloc D).heap.size = w.heap.size + 4 := by simp
  have os4 : ((((w.alloc A).alloc B).alloc C).alloc D).os = w.os ∧ ((((w.alloc A).alloc B).alloc C).alloc D).output = w.output := ⟨rfl, rfl⟩
  rw [hA, hB, hC, hD] at hcl
  unfold PP at hcl ⊢
  go_enter Tryd.func34, Tryd.ntmps34
  go_wp2_with (go_at_call 33; refine hcl.mono ?_)
  rintro e w5 ⟨a1, n1, c1, rfl, hR⟩
  rw [← hA, ← hB, ← hC, ← hD] at hR
  generalize ((((w.alloc A).alloc B).alloc C).alloc D) = w4 at *
  obtain ⟨Fz', S, o1, o2, o3, o4, o5, o6, o7, o8⟩ := hR
  obtain ⟨E, hE⟩ : ∃ A : Obj, A = .cells #[.int .i64 r.fKey, .int .i64 r.fNext, .slice a1 n1 c1] 28 := ⟨_, rfl⟩
  have hk6 : ∀ k, k < w5.heap.size → (w5.alloc E).heap[k]? = w5.heap[k]? := fun k hk => heap_alloc_old _ _ hk
  have hown6 : Own (w5.alloc E) Fz' 2 (.slice a1 n1 c1) (.slc 6 (rWrap r.fWraps)) S := o1.mono (fun _ _ h => h) (fun x y h => keep_of_heap (hk6 x (o4 x y h).2) y) 2 (fun x y h => keep_of_heap (hk6 x (o2 x y h).2.1) y)
  have hn6 : (w5.alloc E).cell? ⟨w.heap.size + 1, 0, none⟩ = some (.int .i64 now) := by
    have : (w5.alloc E).heap[w.heap.size + 1]? = some (.cells #[.int .i64 now] 3 (0, 0)) := by rw [hk6 _ (by omega), o8 _ (by omega)]; exact p1
    simp [World.cell?, this]
  have hi6 : IdsAt (w5.heap.size + 1) (w.heap.size + 3) [] (w5.alloc E) := ⟨.slice none 0 0, by rw [hk6 _ (by omega), o8 _ (by omega)]; exact p3, World.ownsRow_nil _ _ _ _⟩
  have hdf := df_own (w5.heap.size + 1) (w.heap.size + 1) (w.heap.size + 3) now r.fWraps (.slice a1 n1 c1) Fz' S (w5.alloc E) (by omega) (by omega) (by omega) (by simp) hn6 hown6 hi6 hlen (fun x y h => by have := o2 x y h; omega) (fun x y h => by
    have h1 := (o4 x y h).2
    rcases (o4 x y h).1 with h2 | h2
    · have := hFz x y h2; omega
    · omega) (fun x y h => (o2 x y h).2.2)
  have hdf : Calls PP 62 #[.slice a1 n1 c1, .func (.func 63) #[] #[.pointer (some ⟨w.heap.size + 1, 0, none⟩), .pointer (some ⟨w.heap.size + 1 + 1 + 1, 0, none⟩)]] (w5.alloc E) fun e w' => ∃ (a : Option Addr) (n c : Nat), e = .returned (.slice a n c) ∧
      DfR (w5.heap.size + 1) (w.heap.size + 3) now r.fWraps Fz' S (w5.alloc E) w' (.slice a n c) := hdf.mono (fun e w' ⟨a, n, c, S', h1, h2⟩ => ⟨a, n, c, h1, S', h2⟩)
  rw [hE] at hdf
  unfold PP at hdf
  go_wp2_with (go_at_call 62; refine hdf.mono ?_)
  rintro e w7 ⟨a2, n2, c2, rfl, hD7⟩
  rw [← hE] at hD7
  obtain ⟨S', d1, d2, ⟨v3, d3, d4⟩, d5, d6⟩ := hD7
  obtain ⟨⟨a3, n3, c3, rfl⟩, S3, d7, d8⟩ := ids_own (Fz := Fz') d4
  have hE7 : w7.heap[w5.heap.size]? = some (.cells #[.int .i64 r.fKey, .int .i64 r.fNext, .slice a1 n1 c1] 28 (0, 0)) := by
    rw [d5.block _ (by omega) (fun hx => by
      rcases hx with h | ⟨y, h⟩
      · omega
      · have := o2 _ _ h; omega), ← hE]
    show (w5.heap.push E)[w5.heap.size]? = some E
    rw [Array.getElem?_push_size]
  have hT7 : w7.heap[w.heap.size + 1 + 1]? = some (.cells #[.int .i64 0, .int .i64 0, .slice none 0 0] 28 (0, 0)) := by
    rw [d5.block _ (by omega) (fun hx => by
      rcases hx with h | ⟨y, h⟩
      · omega
      · have := o2 _ _ h; omega), hk6 _ (by omega), o8 _ (by omega)]
    exact p2
  have hI7 : w7.heap[w.heap.size + 1 + 1 + 1]? = some (.cells #[.slice a3 n3 c3] 29 (0, 0)) := d3
  have k2 : w7.cell? ⟨w5.heap.size, 2, none⟩ = some (.slice a1 n1 c1) := by simp [World.cell?, hE7]
  have kf : w7.frozen? ⟨w5.heap.size, 2, none⟩ = false := by simp [World.frozen?, hE7]
  have hE8 : (w7.setCell ⟨w5.heap.size, 2, none⟩ (.slice a2 n2 c2)).heap[w5.heap.size]? = some (.cells #[.int .i64 r.fKey, .int .i64 r.fNext, .slice a2 n2 c2] 28 (0, 0)) := by
    simp [World.setCell, Array.getElem?_modify, hE7]
  have hT8 : (w7.setCell ⟨w5.heap.size, 2, none⟩ (.slice a2 n2 c2)).heap[w.heap.size + 1 + 1]? = some (.cells #[.int .i64 0, .int .i64 0, .slice none 0 0] 28 (0, 0)) := by
    rw [setCell_heap (by show _ ≠ w5.heap.size; omega)]; exact hT7
  have hI8 : (w7.setCell ⟨w5.heap.size, 2, none⟩ (.slice a2 n2 c2)).heap[w.heap.size + 1 + 1 + 1]? = some (.cells #[.slice a3 n3 c3] 29 (0, 0)) := by
    rw [setCell_heap (by show _ ≠ w5.heap.size; omega)]; exact hI7
  go_wp2
  generalize hw8 : w7.setCell ⟨w5.heap.size, 2, none⟩ (.slice a2 n2 c2) = w8 at *
  have e0 : w8.cell? ⟨w5.heap.size, 0, none⟩ = some (.int .i64 r.fKey) := by simp [World.cell?, hE8]
  have e1 : w8.cell? ⟨w5.heap.size, 1, none⟩ = some (.int .i64 r.fNext) := by simp [World.cell?, hE8]
  have e2 : w8.cell? ⟨w5.heap.size, 2, none⟩ = some (.slice a2 n2 c2) := by simp [World.cell?, hE8]
  have e3 : w8.cell? ⟨w.heap.size + 1 + 1 + 1, 0, none⟩ = some (.slice a3 n3 c3) := by simp [World.cell?, hI8]
  have f0 : w8.cell? ⟨w.heap.size + 1 + 1, 0, none⟩ = some (.int .i64 0) := by simp [World.cell?, hT8]
  have f1 : w8.cell? ⟨w.heap.size + 1 + 1, 1, none⟩ = some (.int .i64 0) := by simp [World.cell?, hT8]
  have f2 : w8.cell? ⟨w.heap.size + 1 + 1, 2, none⟩ = some (.slice none 0 0) := by simp [World.cell?, hT8]
  have z0 : w8.frozen? ⟨w.heap.size + 1 + 1, 0, none⟩ = false := by simp [World.frozen?, hT8]
  have z1 : w8.frozen? ⟨w.heap.size + 1 + 1, 1, none⟩ = false := by simp [World.frozen?, hT8]
  have z2 : w8.frozen? ⟨w.heap.size + 1 + 1, 2, none⟩ = false := by simp [World.frozen?, hT8]
  go_region
  all_goals (try go_wp2)
  all_goals (
    obtain ⟨w9, hw9⟩ : ∃ w9, w9 = (((w8.setCell ⟨w.heap.size + 1 + 1, 0, none⟩ (.int .i64 r.fKey)).setCell ⟨w.heap.size + 1 + 1, 1, none⟩ (.int .i64 r.fNext)).setCell ⟨w.heap.size + 1 + 1, 2, none⟩ (.slice a2 n2 c2)).drew := ⟨_, rfl⟩
    rw [← hw9]
    have hT9 : w9.heap[w.heap.size + 1 + 1]? = some (.cells #[.int .i64 r.fKey, .int .i64 r.fNext, .slice a2 n2 c2] 28 (0, 0)) := by
      rw [hw9]
      show (((w8.setCell ⟨w.heap.size + 1 + 1, 0, none⟩ (.int .i64 r.fKey)).setCell ⟨w.heap.size + 1 + 1, 1, none⟩ (.int .i64 r.fNext)).setCell ⟨w.heap.size + 1 + 1, 2, none⟩ (.slice a2 n2 c2)).heap[w.heap.size + 1 + 1]? = _
      simp [World.setCell, Array.getElem?_modify, hT8]
    have hk9 : ∀ k, k ≠ w.heap.size + 1 + 1 → k ≠ w5.heap.size → w9.heap[k]? = w7.heap[k]? := by
      intro k h1 h2
      rw [hw9, ← hw8]
      show ((((w7.setCell ⟨w5.heap.size, 2, none⟩ (.slice a2 n2 c2)).setCell ⟨w.heap.size + 1 + 1, 0, none⟩ (.int .i64 r.fKey)).setCell ⟨w.heap.size + 1 + 1, 1, none⟩ (.int .i64 r.fNext)).setCell ⟨w.heap.size + 1 + 1, 2, none⟩ (.slice a2 n2 c2)).heap[k]? = _
      rw [setCell_heap h1, setCell_heap h1, setCell_heap h1, setCell_heap h2]
    have hs9 : w9.heap.size = w7.heap.size ∧ w9.os = w7.os ∧ w9.output = w7.output := by
      rw [hw9, ← hw8]
      refine ⟨?_, rfl, rfl⟩
      show ((((w7.setCell ⟨w5.heap.size, 2, none⟩ (.slice a2 n2 c2)).setCell ⟨w.heap.size + 1 + 1, 0, none⟩ (.int .i64 r.fKey)).setCell ⟨w.heap.size + 1 + 1, 1, none⟩ (.int .i64 r.fNext)).setCell ⟨w.heap.size + 1 + 1, 2, none⟩ (.slice a2 n2 c2)).heap.size = _
      simp [World.setCell]
    have t0 : w9.cell? ⟨w.heap.size + 1 + 1, 0, none⟩ = some (.int .i64 r.fKey) := by simp [World.cell?, hT9]
    have t1 : w9.cell? ⟨w.heap.size + 1 + 1, 1, none⟩ = some (.int .i64 r.fNext) := by simp [World.cell?, hT9]
    have t2 : w9.cell? ⟨w.heap.size + 1 + 1, 2, none⟩ = some (.slice a2 n2 c2) := by simp [World.cell?, hT9]
    clear hw9 hcl
    refine bodyPost_ret (v := .tuple #[.agg #[.int .i64 r.fKey, .int .i64 r.fNext, .slice a2 n2 c2], .slice a3 n3 c3]) ?_ rfl ?_
    · rw [results_cell_tmp (p := 4) (u := 5) (ty := 28) rfl]
      simp [go_sem, t0, t1, t2]
    · have hsz7 := d5.size
      simp at hsz7
      have hSx : ∀ x y, S' x y → w.heap.size + 4 ≤ x ∧ x < w5.heap.size ∧ ¬ Fz' x y := fun x y h => by have := o2 x y (d2 x y h); exact ⟨by omega, this.2.1, this.2.2⟩
      have hFx : ∀ x y, Fz' x y → (x < w.heap.size ∨ w.heap.size + 4 ≤ x) ∧ x < w5.heap.size := fun x y h => by
        obtain ⟨h1, h2⟩ := o4 x y h
        rcases h1 with h1 | h1
        · exact ⟨.inl (hFz x y h1), h2⟩
        · exact ⟨.inr (by omega), h2⟩
      have kF : Keeps w7 w9 Fz' := fun x y h => by have := hFx x y h; exact keep_of_heap (hk9 x (by omega) (by omega)) y
      refine ⟨a2, n2, c2, a3, n3, c3, rfl, Fz', S', S3, d1.mono (fun _ _ h => h) kF 2 (fun x y h => by have := hSx x y h; exact keep_of_heap (hk9 x (by omega) (by omega)) y), d7.mono (fun _ _ h => h) kF 1 (fun x y h => by have := d8 x y h; exact keep_of_heap (hk9 x (by omega) (by omega)) y), ?_, ?_, o3, ?_, ?_, ?_, ?_, ?_⟩
      · intro x y h1 h2
        have := hSx x y h1
        have := d8 x y h2
        omega
      · rintro x y (h | h)
        · have := hSx x y h
          exact ⟨by omega, by omega, this.2.2⟩
        · have := d8 x y h
          exact ⟨by omega, by omega, fun hf => by have := hFx x y hf; omega⟩
      · intro x y h
        obtain ⟨h1, h2⟩ := o4 x y h
        refine ⟨?_, by omega⟩
        rcases h1 with h1 | h1
        · exact .inl h1
        · exact .inr (by omega)
      · rw [hs9.2.1, d5.os]; exact o5.trans os4.1
      · rw [hs9.2.2, d5.output]; exact o6.trans os4.2
      · omega
      · intro k hk
        rw [hk9 k (by omega) (by omega), d5.block k (by omega) (fun hx => by
          rcases hx with h | ⟨y, h⟩
          · omega
          · have := o2 _ _ h; omega), hk6 k (by omega), o8 k (by omega)]
        exact hb4 k hk)

/-- What SweepWraps returns. -/
def sweepT (r : GRack) (now : Int) : GRack × List Int := if rackOk r = true then ({ fKey := r.fKey, fNext := r.fNext, fWraps := keptG now r.fWraps }, goneG now r.fWraps) else (r, [])

theorem i_sweepWraps_ok {GG : GV} (r : GRack) (now : Int) (hc : r.cost ≤ 1048576) : Valid PP GG 34 [.agg r.c, .d (.int .i64 now)] (.tup [.agg (GRack.mk r.fKey r.fNext (keptG now r.fWraps)).o, .own 0 1 (intsD (goneG now r.fWraps))]) [none, none] := by
  have hco : r.cost = r.fWraps.length + sumBy GWrap.cost r.fWraps := rfl
  refine ⟨⟨Tryd.f34, Tryd.func34, by kernel_rfl, by kernel_rfl⟩, fun w args Fz U hG hFz hRC hap => ?_⟩
  obtain ⟨hl, hRC, _⟩ := hRC
  have q0 := hRC 0 _ rfl
  have q1 := hRC 1 _ rfl
  have e : args = #[args.getD 0 Go.undef, args.getD 1 Go.undef] := by
    apply Array.ext
    · simpa using hl
    · intro i h1 h2
      simp at hl h2
      match i, h2 with
      | 0, _ => simp [hl]
      | 1, _ => simp [hl]
  generalize args.getD 0 Go.undef = v at e q0
  generalize args.getD 1 Go.undef = u at e q1
  have hU : ∀ x y, ¬ ∃ i, i < 2 ∧ U i x y := by
    rintro x y ⟨i, hi, h⟩
    match i, hi with
    | 0, _ =>
      cases q0 with
      | agg _ vs T _ hl h1 hs hd hS =>
        obtain ⟨m, hm, ht⟩ := (hS x y).1 h
        match m, hm with
        | 0, _ => have := hs 0 _ rfl; generalize vs.getD 0 Go.undef = z at this; cases this with | d _ _ _ _ hn => exact hn x y ht
        | 1, _ => have := hs 1 _ rfl; generalize vs.getD 1 Go.undef = z at this; cases this with | d _ _ _ _ hn => exact hn x y ht
        | 2, _ => have := hs 2 _ rfl; generalize vs.getD 2 Go.undef = z at this; cases this with | d _ _ _ _ hn => exact hn x y ht
    | 1, _ => cases q1 with | d _ _ _ _ hn => exact hn x y h
  generalize U 0 = S0 at q0
  generalize U 1 = S1 at q1
  cases q1 with | d _ _ _ q1 _ => ?_
  cases q1
  cases q0 with
  | agg _ vs T _ hl2 h1 hs hd hS =>
    have r0 := hs 0 _ rfl
    have r1 := hs 1 _ rfl
    have r2 := hs 2 _ rfl
    have e1 : vs = #[vs.getD 0 Go.undef, vs.getD 1 Go.undef, vs.getD 2 Go.undef] := by
      apply Array.ext
      · simpa using hl2
      · intro i h1 h2
        simp at hl2 h2
        match i, h2 with
        | 0, _ => simp [hl2]
        | 1, _ => simp [hl2]
        | 2, _ => simp [hl2]
    generalize vs.getD 0 Go.undef = v0 at *
    generalize vs.getD 1 Go.undef = v1 at *
    generalize vs.getD 2 Go.undef = v2 at *
    generalize T 0 = T0 at r0
    generalize T 1 = T1 at r1
    generalize T 2 = T2 at r2
    cases r0 with | d _ _ _ r0 _ => ?_
    cases r1 with | d _ _ _ r1 _ => ?_
    cases r2 with | d _ _ _ r2 _ => ?_
    cases r0
    cases r1
    obtain ⟨a0, m0, c0, rfl⟩ : ∃ a m c, v2 = .slice a m c := by
      rcases shr_slc_inv r2 with ⟨a, cap, rfl, _⟩ | ⟨b, off, cap, _, rfl, _⟩
      · exact ⟨_, _, _, rfl⟩
      · exact ⟨_, _, _, rfl⟩
    rw [e, e1]
    refine (sweep_walk (GG := GG) r now hc (by omega) w Fz a0 m0 c0 hG hFz r2).mono ?_
    rintro e' w' ⟨a, n, c, a', n', c', rfl, Fz', S, S2, o1, o2, o3, o4, o5, o6, o7, o8, o9, o10⟩
    refine ⟨_, Fz', fun i => if i = 0 then (fun x y => S x y ∨ S2 x y) else fun _ _ => False, rfl, ⟨o7, o8⟩, o9, fun b hb _ => o10 b hb, fun b o hb _ => keep_of_heap (o10 b hb) o, o5, fun b o h => (o6 b o h).2, fun b o h => ?_, ?_, fun m c hm => ?_, ?_, ?_⟩
    · rcases (o6 b o h).1 with h | h
      · exact .inl h
      · exact .inr (.inr h)
    · refine .tup _ _ (fun m => match m with | 0 => S | 1 => S2 | _ => fun _ _ => False) _ rfl (fun m c hm => ?_) (fun i j hi hj hij x y h1 h2 => ?_) (fun x y => ⟨fun h => ?_, fun ⟨m, hm, h⟩ => ?_⟩)
      · match m, hm with
        | 0, hm =>
          cases hm
          refine .agg _ _ (fun m => match m with | 2 => S | _ => fun _ _ => False) _ rfl (fun m c hm => ?_) (fun m c hm => ?_) (fun i j hi hj hij x y h1 h2 => ?_) (fun x y => ⟨fun h => ⟨2, by simp, h⟩, fun ⟨m, hm, h⟩ => ?_⟩)
          · match m, hm with
            | 0, _ => rfl
            | 1, _ => rfl
            | 2, _ => rfl
            | m + 3, hm => simp at hm
          · match m, hm with
            | 0, hm => cases hm; exact .d _ _ _ (.int _ _) fun _ _ h => h
            | 1, hm => cases hm; exact .d _ _ _ (.int _ _) fun _ _ h => h
            | 2, hm => cases hm; exact .own _ _ _ _ _ o1
            | m + 3, hm => simp at hm
          · match i, j, hi, hj with
            | 2, 2, _, _ => exact hij rfl
            | 0, _, _, _ => exact h1
            | 1, _, _, _ => exact h1
            | 2, 0, _, _ => exact h2
            | 2, 1, _, _ => exact h2
          · match m, hm with
            | 2, _ => exact h
            | 0, _ => exact h.elim
            | 1, _ => exact h.elim
        | 1, hm => cases hm; exact .own _ _ _ _ _ o2
        | m + 2, hm => simp at hm
      · match i, j, hi, hj with
        | 0, 0, _, _ => exact hij rfl
        | 1, 1, _, _ => exact hij rfl
        | 0, 1, _, _ => exact o3 x y h1 h2
        | 1, 0, _, _ => exact o3 x y h2 h1
      · rcases (show S x y ∨ S2 x y from h) with h | h
        · exact ⟨0, by simp, h⟩
        · exact ⟨1, by simp, h⟩
      · match m, hm with
        | 0, _ => exact .inl h
        | 1, _ => exact .inr h
    · match m, hm with
      | 0, hm => cases hm
      | 1, hm => cases hm
      | m + 2, hm => simp at hm
    · intro i j hij x y h1 h2
      by_cases h : i = 0
      · subst h
        rw [if_neg (by omega)] at h2
        exact h2
      · simp only [h, if_false] at h1
    · intro i x y h
      by_cases h0 : i = 0
      · subst h0
        obtain ⟨p1, p2, p3⟩ := o4 x y h
        exact ⟨.inr p1, p3, p2⟩
      · simp only [h0, if_false] at h

theorem keptG_succ {now : Int} {l : List GWrap} {i : Nat} {x : GWrap} (h : l[i]? = some x) : keptG now (l.take (i + 1)) = keptG now (l.take i) ++ (if x.fEnds ≤ now then [] else [x]) ∧ goneG now (l.take (i + 1)) = goneG now (l.take i) ++ (if x.fEnds ≤ now then [x.fId] else []) := by
  unfold keptG goneG
  rw [List.take_add_one, h, List.filter_append, List.filter_append, List.map_append]
  by_cases he : x.fEnds ≤ now
  · rw [if_pos he, if_pos he]; simp [endedG, he]
  · rw [if_neg he, if_neg he]; simp [endedG, he]

theorem i_SweepWraps_ok [MaxL GG] (r : GRack) (now : Int) (hc : r.cost ≤ 1048576) : Valid PP GG F_I_SweepWraps [.agg r.c, .d (.int .i64 now)] (.tup [.agg (sweepT r now).1.o, .own 0 1 (intsD (sweepT r now).2)]) [none, none] := by
  refine v_I_SweepWraps [.agg (sweepT r now).1.o, .own 0 1 (intsD (sweepT r now).2)] rfl rfl ?_
  have cr := isRack_ok (GG := GG) r hc
  have cc := cloneRack_ok (GG := GG) r hc
  have cs := i_sweepWraps_ok (GG := GG) r now hc
  have hind := ind_rWrap (keptG now r.fWraps)
  have hind2 := ind_rWrap r.fWraps
  obtain ⟨t, ht⟩ : ∃ t, sweepT r now = t := ⟨_, rfl⟩
  rw [ht]
  unfold sweepT at ht
  cases hb : rackOk r with
  | true =>
    rw [hb] at cr ht
    rw [if_pos rfl] at ht
    subst ht
    repeat' (first | refine W_seq ?_ | refine W_skip ?_ | refine W_block ?_ | refine W_exit ?_ | refine pick_pos rfl ?_ | refine pick_neg rfl ?_ | ((first | refine W_regP fun K hK => ?_ | refine W_regPD fun K hK => ?_ | refine W_ret ?_ | with_reducible refine callQ (cr) ?_ | with_reducible refine callQ (cs) ?_); simp [Fin]) | (with_reducible refine hK _ ?_; clear hK K) | (with_reducible refine goL_split (fun h => ?_) (fun h => ?_) <;> first | (exfalso; simp at h; first | done | omega | contradiction) | ((try simp at h); simp)) | with_reducible refine And.intro ?_ ?_ | with_reducible exact okay_rfl rfl | with_reducible assumption | (refine W_cond rfl (fun h => ?_) (fun h => ?_) <;> first | (exfalso; simp at h; first | done | omega | contradiction) | (exfalso; simp_all; done) | (try simp at h)) | omega)
  | false =>
    rw [hb] at cr ht
    rw [if_neg (by simp)] at ht
    subst ht
    repeat' (first | refine W_seq ?_ | refine W_skip ?_ | refine W_block ?_ | refine W_exit ?_ | refine pick_pos rfl ?_ | refine pick_neg rfl ?_ | ((first | refine W_regP fun K hK => ?_ | refine W_regPD fun K hK => ?_ | refine W_ret ?_ | with_reducible refine callQ (cr) ?_ | with_reducible refine callQ (cc) ?_); simp [Fin, intsD]) | (with_reducible refine hK _ ?_; clear hK K) | (with_reducible refine goL_split (fun h => ?_) (fun h => ?_) <;> first | (exfalso; simp at h; first | done | omega | contradiction) | ((try simp at h); simp [intsD])) | with_reducible refine And.intro ?_ ?_ | with_reducible exact okay_rfl rfl | with_reducible assumption | (refine W_cond rfl (fun h => ?_) (fun h => ?_) <;> first | (exfalso; simp at h; first | done | omega | contradiction) | (exfalso; simp_all; done) | (try simp at h)) | omega)

theorem s_SweepWraps_ok (r : GRack) (now : Int) (hc : r.cost ≤ 1048576) : Valid PP GG F_S_SweepWraps [.agg r.c, .d (.int .i64 now)] (.tup [.agg (sweepT r now).1.o, .own 0 1 (intsD (sweepT r now).2)]) [none, none] := by
  refine v_S_SweepWraps [.agg (sweepT r now).1.o, .own 0 1 (intsD (sweepT r now).2)] rfl rfl ?_
  have cr := s_RackOk_ok (GG := GG) r hc
  have cc := l14Copy_ok (GG := GG) r hc
  obtain ⟨t, ht⟩ : ∃ t, sweepT r now = t := ⟨_, rfl⟩
  rw [ht]
  unfold sweepT at ht
  cases hb : rackOk r with
  | false =>
    rw [hb] at cr ht
    rw [if_neg (by simp)] at ht
    subst ht
    repeat' (first | refine W_seq ?_ | refine W_skip ?_ | refine W_block ?_ | refine W_exit ?_ | refine pick_pos rfl ?_ | refine pick_neg rfl ?_ | ((first | refine W_regP fun K hK => ?_ | refine W_regPD fun K hK => ?_ | refine W_ret ?_ | with_reducible refine callQ (cr) ?_ | with_reducible refine callQ (cc) ?_); simp [Fin, intsD]) | (with_reducible refine hK _ ?_; clear hK K) | (with_reducible refine goL_split (fun h => ?_) (fun h => ?_) <;> first | (exfalso; simp at h; first | done | omega | contradiction) | ((try simp at h); simp [intsD])) | with_reducible refine And.intro ?_ ?_ | with_reducible exact okay_rfl rfl | with_reducible assumption | (refine W_cond rfl (fun h => ?_) (fun h => ?_) <;> first | (exfalso; simp at h; first | done | omega | contradiction) | (exfalso; simp_all; done) | (try simp at h)) | omega)
  | true =>
    rw [hb] at cr ht
    rw [if_pos rfl] at ht
    subst ht
    clear cc hb
    obtain ⟨f, k, l⟩ := r
    have hco : (GRack.mk f k l).cost = l.length + sumBy GWrap.cost l := rfl
    simp only
    refine W_seq (?_)
    apply W_regS
    · intro K hK
      simp
      repeat' (first | with_reducible exact hK | (with_reducible refine goL_split (fun _ => ?_) (fun _ => ?_) <;> simp) | with_reducible refine And.intro ?_ ?_ | with_reducible exact okay_rfl rfl | with_reducible assumption | omega)
    refine W_seq (?_)
    apply W_regS
    · intro K hK
      simp
      repeat' (first | with_reducible exact hK | (with_reducible refine goL_split (fun _ => ?_) (fun _ => ?_) <;> simp) | with_reducible refine And.intro ?_ ?_ | with_reducible exact okay_rfl rfl | with_reducible assumption | omega)
    refine W_seq (W_seq (?_))
    apply W_regS
    · intro K hK
      simp
      repeat' (first | with_reducible exact hK | (with_reducible refine callQ (cr) ?_; simp) | (with_reducible refine goL_split (fun _ => ?_) (fun _ => ?_) <;> simp) | with_reducible refine And.intro ?_ ?_ | with_reducible exact okay_rfl rfl | with_reducible assumption | omega)
    refine W_cond rfl (fun h => ?_) (fun h => W_skip ?_)
    · cases h
    refine W_seq (?_)
    apply W_regS
    · intro K hK
      simp
      repeat' (first | with_reducible exact hK | (with_reducible refine goL_split (fun _ => ?_) (fun _ => ?_) <;> simp) | with_reducible refine And.intro ?_ ?_ | with_reducible exact okay_rfl rfl | with_reducible assumption | omega)
    refine W_nilP 7 2 rfl rfl rfl ?_
    refine W_seq (W_seq (?_))
    apply W_regS
    · intro K hK
      simp
      repeat' (first | with_reducible exact hK | (with_reducible refine goL_split (fun _ => ?_) (fun _ => ?_) <;> simp) | with_reducible refine And.intro ?_ ?_ | with_reducible exact okay_rfl rfl | with_reducible assumption | omega)
    refine W_block (W_loop (fun n st => ∃ (i : Nat) (w : List GWrap) (g : List Int), n = l.length - i ∧ i ≤ l.length ∧ w = keptG now (l.take i) ∧ g = goneG now (l.take i) ∧
      st = ⟨[], [(1, .d (.int .i64 now)), (2, .ptr 0 0), (4, .ptr 1 0), (6, .sl 2), (7, .ptr 3 0), (8, .d (.int .i64 i))], [(0, .box [.d (.int .i64 f), .d (.int .i64 k), .d (.slc 6 (rWrap l))]), (1, .box [.d (.int .i64 0), .d (.int .i64 0), .nil 1 6]), (2, .arr 0 0 1 (intsD g)), (3, .box [.d (.int .i64 f), .d (.int .i64 k), .sl 4]), (4, .arr 0 1 6 (rWrap w))], 5⟩) _ ⟨0, [], [], rfl, by omega, rfl, rfl, rfl⟩ ?_)
    rintro n st ⟨i, w, g, rfl, hi, hw, hgg, rfl⟩
    refine W_seq (W_seq (?_))
    apply W_regS
    · intro K hK
      simp
      repeat' (first | with_reducible exact hK | (with_reducible refine goL_split (fun _ => ?_) (fun _ => ?_) <;> simp) | with_reducible refine And.intro ?_ ?_ | with_reducible exact okay_rfl rfl | with_reducible assumption | omega)
    refine W_cond rfl (fun h => W_skip ?_) (fun h => W_exit ?_)
    · simp at h
      have ha := List.getElem?_eq_getElem h
      generalize l[i] = x at ha
      have hg := sumBy_get (f := GWrap.cost) ha
      have cw := l14CopyWrap_ok (GG := GG) x (by omega)
      obtain ⟨hs, hs2⟩ := keptG_succ (now := now) ha
      have hwl : w.length ≤ l.length := by rw [hw]; have := List.length_filter_le (fun x => !endedG now x) (l.take i); unfold keptG; rw [List.length_take] at this; omega
      have hgl : g.length ≤ l.length := by rw [hgg]; unfold goneG; rw [List.length_map]; have := List.length_filter_le (endedG now) (l.take i); rw [List.length_take] at this; omega
      rw [← hw] at hs
      rw [← hgg] at hs2
      refine W_seq (W_block (W_seq ?_))
      apply W_regS
      · intro K hK
        simp [ha]
        repeat' (first | with_reducible exact hK | (with_reducible refine goL_split (fun _ => ?_) (fun _ => ?_) <;> simp [ha]) | with_reducible refine And.intro ?_ ?_ | with_reducible exact okay_rfl rfl | with_reducible assumption | omega)
      refine W_cond rfl (fun h2 => ?_) (fun h2 => ?_)
      · have h3 : x.fEnds ≤ now := by simpa using h2
        rw [if_pos h3] at hs hs2
        rw [List.append_nil] at hs
        apply W_regS
        · intro K hK
          simp [ha, limit]
          repeat' (first | with_reducible exact hK | (with_reducible refine goL_split (fun _ => ?_) (fun _ => ?_) <;> simp [ha, limit]) | with_reducible refine And.intro ?_ ?_ | with_reducible exact okay_rfl rfl | with_reducible assumption | omega)
        apply W_regS
        · intro K hK
          simp
          repeat' (first | with_reducible exact hK | (with_reducible refine goL_split (fun _ => ?_) (fun _ => ?_) <;> simp) | with_reducible refine And.intro ?_ ?_ | with_reducible exact okay_rfl rfl | with_reducible assumption | omega)
        refine ⟨l.length - (i + 1), by omega, i + 1, w, g ++ [x.fId], rfl, h, hs.symm, hs2.symm, ?_⟩
        rw [intsD_snoc]
        simp [gc, closeN, liveA, gcV, gcO, renA, renAs, renO, namesAs, namesA, namesO, posn]
        exact wrap_id (by omega) (by omega)
      · have h3 : ¬ x.fEnds ≤ now := by simpa using h2
        rw [if_neg h3] at hs hs2
        rw [List.append_nil] at hs2
        apply W_regD
        · intro K hK
          simp [ha, limit]
          repeat' (first | with_reducible exact hK | (with_reducible refine callQ (cw) ?_; simp [ha, limit]) | (with_reducible refine goL_split (fun _ => ?_) (fun _ => ?_) <;> simp [ha, limit]) | with_reducible refine And.intro ?_ ?_ | with_reducible exact okay_rfl rfl | with_reducible assumption | omega)
        apply W_regS
        · intro K hK
          simp
          repeat' (first | with_reducible exact hK | (with_reducible refine goL_split (fun _ => ?_) (fun _ => ?_) <;> simp) | with_reducible refine And.intro ?_ ?_ | with_reducible exact okay_rfl rfl | with_reducible assumption | omega)
        refine ⟨l.length - (i + 1), by omega, i + 1, w ++ [x], g, rfl, h, hs.symm, hs2.symm, ?_⟩
        rw [rWrap_snoc]
        simp [gc, closeN, liveA, gcV, gcO, renA, renAs, renO, namesAs, namesA, namesO, posn]
        exact wrap_id (by omega) (by omega)
    · simp at h
      rw [List.take_of_length_le h] at hw hgg
      subst hw hgg
      rw [if_pos rfl]
      refine W_seq (?_)
      apply W_regS
      · intro K hK
        simp
        repeat' (first | with_reducible exact hK | (with_reducible refine goL_split (fun _ => ?_) (fun _ => ?_) <;> simp) | with_reducible refine And.intro ?_ ?_ | with_reducible exact okay_rfl rfl | with_reducible assumption | omega)
      refine W_ret ?_
      simp [Fin]
      all_goals omega

theorem sumBy_filter_le {α : Type} (f : α → Nat) (p : α → Bool) (l : List α) : sumBy f (l.filter p) ≤ sumBy f l := by
  induction l with
  | nil => simp [sumBy]
  | cons x l ih =>
    cases h : p x with
    | true => simp only [List.filter_cons, h, if_true, sumBy]; omega
    | false => simp only [List.filter_cons, h, sumBy, Bool.false_eq_true, if_false]; omega

theorem sweepT_cost (r : GRack) (now : Int) : (sweepT r now).1.cost ≤ r.cost ∧ (sweepT r now).2.length ≤ r.fWraps.length := by
  unfold sweepT
  by_cases h : rackOk r = true
  · rw [if_pos h]
    have h1 := sumBy_filter_le GWrap.cost (fun x => !endedG now x) r.fWraps
    have h2 := List.length_filter_le (fun x => !endedG now x) r.fWraps
    have h3 := List.length_filter_le (endedG now) r.fWraps
    refine ⟨?_, by simpa [goneG] using h3⟩
    show (keptG now r.fWraps).length + sumBy GWrap.cost (keptG now r.fWraps) ≤ r.fWraps.length + sumBy GWrap.cost r.fWraps
    unfold keptG
    omega
  · rw [if_neg h]
    exact ⟨Nat.le_refl _, by simp⟩

theorem law_SweepWraps [MaxL GG] (r : GRack) (now : Int) (hok : r.ok) : Valid PP GG F_L_FnExactSweepWraps [.agg r.c, .d (.int .i64 now)] (.d (.bool true)) [none, none] := by
  refine v_L_FnExactSweepWraps [.d (.bool true)] rfl rfl ?_
  have csz := szRack_g (GG := GG) r 1048576 hok ⟨by omega, by omega⟩
  by_cases hcost : r.cost ≤ 1048576
  · rw [leftR_yes (by omega)] at csz
    have ct := toRack_g (GG := GG) r (by omega)
    have cex := eqRack_g (GG := GG) r r (by omega) (by omega)
    rw [decide_eq_true rfl] at cex
    have hmr := rack_marks (r := r) (by omega)
    have ck := markRack_g (GG := GG) r 1 (by omega) ⟨by omega, by omega⟩
    have cs := s_SweepWraps_ok (GG := GG) r now hcost
    have ci := i_SweepWraps_ok (GG := GG) r now hcost
    have hco : r.cost = r.fWraps.length + sumBy GWrap.cost r.fWraps := rfl
    obtain ⟨hgc, hgd⟩ := sweepT_cost r now
    generalize sweepT r now = t at cs ci hgc hgd
    obtain ⟨g, o⟩ := t
    simp only at cs ci hgc hgd
    have ce := eqRack_g (GG := GG) g g (by omega) (by omega)
    rw [decide_eq_true rfl] at ce
    have hind := ind_rWrap g.fWraps
    have hmg := rack_marks (r := g) (by omega)
    have cm := markRack_g (GG := GG) g 1 (by omega) ⟨by omega, by omega⟩
    have ch := heldRack_g (GG := GG) g 1 (by omega) ⟨by omega, by omega⟩
    simp only [GRack.markIn] at ck cm ch
    have hindb := ind_ints o
    have cx := eqIntS_ok (GG := GG) o o (by omega)
    rw [beq_self_eq_true] at cx
    have cm2 := markIntS_ok (GG := GG) (intsD o) (1 + (g.marksIn : Nat)) (rows_ints _) (by simp; omega) (by omega)
    simp only [intsD_len] at cm2
    have ch2 := heldIntS_ok (GG := GG) o.length (1 + (g.marksIn : Nat)) (by omega) (by omega)
    repeat' (first | refine W_seq ?_ | refine W_skip ?_ | refine W_block ?_ | refine W_exit ?_ | refine pick_pos rfl ?_ | refine pick_neg rfl ?_ | ((first | refine W_regP fun K hK => ?_ | refine W_regPD fun K hK => ?_ | refine W_ret ?_ | with_reducible refine callQ (csz) ?_ | with_reducible refine callQ (ct) ?_ | with_reducible refine callQ (cs) ?_ | with_reducible refine callQ (ci) ?_ | with_reducible refine callQ (ce) ?_ | with_reducible refine callQ (cex) ?_ | with_reducible refine callQ (cx) ?_ | with_reducible refine callQ (ck) ?_ | with_reducible refine callQ (cm) ?_ | with_reducible refine callQ (cm2) ?_ | with_reducible refine callQ (ch) ?_ | with_reducible refine callQ (ch2) ?_); simp [Fin]) | (with_reducible refine hK _ ?_; clear hK K) | (with_reducible refine goL_split (fun h => ?_) (fun h => ?_) <;> first | (exfalso; simp at h; first | done | omega | contradiction) | ((try simp at h); simp)) | with_reducible refine And.intro ?_ ?_ | with_reducible exact okay_rfl rfl | with_reducible assumption | (refine W_cond rfl (fun h => ?_) (fun h => ?_) <;> first | (exfalso; simp at h; first | done | omega | contradiction) | (exfalso; simp_all; done) | (try simp at h)) | omega)
  · rw [leftR_no (by omega)] at csz
    repeat' (first | refine W_seq ?_ | refine W_skip ?_ | refine W_block ?_ | refine W_exit ?_ | refine pick_pos rfl ?_ | refine pick_neg rfl ?_ | ((first | refine W_regP fun K hK => ?_ | refine W_regPD fun K hK => ?_ | refine W_ret ?_ | with_reducible refine callQ (csz) ?_); simp [Fin]) | (with_reducible refine hK _ ?_; clear hK K) | (with_reducible refine goL_split (fun h => ?_) (fun h => ?_) <;> first | (exfalso; simp at h; first | done | omega | contradiction) | ((try simp at h); simp)) | with_reducible refine And.intro ?_ ?_ | with_reducible exact okay_rfl rfl | with_reducible assumption | (refine W_cond rfl (fun h => ?_) (fun h => ?_) <;> first | (exfalso; simp at h; first | done | omega | contradiction) | (exfalso; simp_all; done) | (try simp at h)) | omega)


end Go.Proofs.YtmihpclfdicfkaaDoor.Ab

