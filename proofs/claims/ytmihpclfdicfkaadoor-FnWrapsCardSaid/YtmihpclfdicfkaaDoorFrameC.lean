/-
  A part of a proof about the given program; what is proved is said where each theorem stands.
-/
import Derived.Test.YtmihpclfdicfkaaDoorFrameA
import Derived.Test.YtmihpclfdicfkaaDoorFrameB
namespace Go.Proofs.YtmihpclfdicfkaaDoor.Ab
inductive RC (w : World) (Fz : PSet) : C → Value → PSet → Prop
  | d (x : D) (v : Value) (S : PSet) (h : Shr w Fz v x) (hS : ∀ x y, ¬ S x y) : RC w Fz (.d x) v S
  | own (k sz : Nat) (rows : List (List D)) (v : Value) (S : PSet) (h : Own w Fz (k + 1) v (.slc sz rows) S) : RC w Fz (.own k sz rows) v S
  | nil (k sz : Nat) (S : PSet) (hS : ∀ x y, ¬ S x y) : RC w Fz (.nil k sz) (.slice none 0 0) S
  | box (cells : List C) (b o : Nat) (vs : Nat → Value) (T : Nat → PSet) (S : PSet) (hr : Room w b o cells.length)
      (hc : ∀ (m : Nat) c, cells[m]? = some c → w.cell? (at_ b (o + m)) = some (vs m) ∧ (vs m).oneCell' = true) (hs : ∀ (m : Nat) c, cells[m]? = some c → RC w Fz c (vs m) (T m))
      (hd : Disj cells.length T) (hn : ∀ m, m < cells.length → ∀ x y, rng b o cells.length x y → ¬ T m x y)
      (hS : ∀ x y, S x y ↔ (rng b o cells.length x y ∨ ∃ m, m < cells.length ∧ T m x y)) : RC w Fz (.box cells) (.pointer (some (at_ b o))) S
  | rp (row : List D) (b o : Nat) (vs : Nat → Value) (S : PSet) (hc : ∀ (m : Nat) d, row[m]? = some d → w.cell? (at_ b (o + m)) = some (vs m) ∧ Fz b (o + m))
      (hs : ∀ (m : Nat) d, row[m]? = some d → Shr w Fz (vs m) d) (hS : ∀ x y, ¬ S x y) : RC w Fz (.rp row) (.pointer (some (at_ b o))) S
  | agg (cells : List C) (vs : Array Value) (T : Nat → PSet) (S : PSet) (hl : vs.size = cells.length) (h1 : ∀ (m : Nat) c, cells[m]? = some c → (vs.getD m Go.undef).oneCell' = true)
      (hs : ∀ (m : Nat) c, cells[m]? = some c → RC w Fz c (vs.getD m Go.undef) (T m)) (hd : Disj cells.length T) (hS : ∀ x y, S x y ↔ ∃ m, m < cells.length ∧ T m x y) : RC w Fz (.agg cells) (.agg vs) S
  | tup (cells : List C) (vs : Array Value) (T : Nat → PSet) (S : PSet) (hl : vs.size = cells.length)
      (hs : ∀ (m : Nat) c, cells[m]? = some c → RC w Fz c (vs.getD m Go.undef) (T m)) (hd : Disj cells.length T) (hS : ∀ x y, S x y ↔ ∃ m, m < cells.length ∧ T m x y) : RC w Fz (.tup cells) (.tuple vs) S
theorem RC.mono {w w' : World} {Fz Fz' : PSet} (hF : ∀ b o, Fz b o → Fz' b o) (hz : Keeps w w' Fz) {c : C} {v : Value} {S : PSet} (h : RC w Fz c v S) : Keeps w w' S → RC w' Fz' c v S := by
  induction h with
  | d x v S h hS => intro _; exact .d x v S (h.mono (fun b o hb => (hz b o hb).1) hF) hS
  | own k sz rows v S h => intro hk; exact .own k sz rows v S (Own.mono hF hz (k + 1) hk h)
  | nil k sz S hS => intro _; exact .nil k sz S hS
  | box cells b o vs T S hr hc hs hd hn hS ih =>
    intro hk
    refine .box cells b o vs T S (hr.keep (hk.sub fun x y h => (hS x y).2 (.inl h))) (fun m c hm => ?_) (fun m c hm => ih m c hm (hk.sub fun x y h => (hS x y).2 (.inr ⟨m, (List.getElem?_eq_some_iff.1 hm).1, h⟩))) hd hn hS
    have hlt := (List.getElem?_eq_some_iff.1 hm).1
    obtain ⟨h1, h2⟩ := hc m c hm
    exact ⟨((hk b (o + m) ((hS _ _).2 (.inl ⟨rfl, by omega, by omega⟩))).1).trans h1, h2⟩
  | rp row b o vs S hc hs hS =>
    intro _
    exact .rp row b o vs S (fun m d hm => ⟨((hz _ _ (hc m d hm).2).1).trans (hc m d hm).1, hF _ _ (hc m d hm).2⟩) (fun m d hm => (hs m d hm).mono (fun b o hb => (hz b o hb).1) hF) hS
  | agg cells vs T S hl h1 hs hd hS ih =>
    intro hk
    exact .agg cells vs T S hl h1 (fun m c hm => ih m c hm (hk.sub fun x y h => (hS x y).2 ⟨m, (List.getElem?_eq_some_iff.1 hm).1, h⟩)) hd hS
  | tup cells vs T S hl hs hd hS ih =>
    intro hk
    exact .tup cells vs T S hl (fun m c hm => ih m c hm (hk.sub fun x y h => (hS x y).2 ⟨m, (List.getElem?_eq_some_iff.1 hm).1, h⟩)) hd hS
theorem RC.lt {w : World} {Fz : PSet} {c : C} {v : Value} {S : PSet} (h : RC w Fz c v S) : ∀ b o, S b o → b < w.heap.size := by
  induction h with
  | d x v S h hS => intro b o hb; exact (hS b o hb).elim
  | own k sz rows v S h => exact Own.lt (k + 1) h
  | nil k sz S hS => intro b o hb; exact (hS b o hb).elim
  | box cells b o vs T S hr hc hs hd hn hS ih =>
    intro x y hx
    rcases (hS x y).1 hx with ⟨rfl, h1, h2⟩ | ⟨m, hm, hT⟩
    · obtain ⟨⟨u, hu⟩, _⟩ := hr (y - o) (by omega)
      exact cell_lt hu
    · exact ih m _ (List.getElem?_eq_getElem hm) x y hT
  | rp row b o vs S hc hs hS => intro b o hb; exact (hS b o hb).elim
  | agg cells vs T S hl h1 hs hd hS ih =>
    intro x y hx
    obtain ⟨m, hm, hT⟩ := (hS x y).1 hx
    exact ih m _ (List.getElem?_eq_getElem hm) x y hT
  | tup cells vs T S hl hs hd hS ih =>
    intro x y hx
    obtain ⟨m, hm, hT⟩ := (hS x y).1 hx
    exact ih m _ (List.getElem?_eq_getElem hm) x y hT
theorem RC.congr {w : World} {Fz : PSet} {c : C} {v : Value} {S S' : PSet} (h : RC w Fz c v S) (e : ∀ x y, S x y ↔ S' x y) : RC w Fz c v S' := by
  have : S = S' := by funext x y; exact propext (e x y)
  exact this ▸ h
def RCs (w : World) (Fz : PSet) (cs : List C) (args : Array Value) (U : Nat → PSet) : Prop :=
  args.size = cs.length ∧ (∀ (m : Nat) c, cs[m]? = some c → RC w Fz c (args.getD m Go.undef) (U m)) ∧ Disj cs.length U
structure Post (w w' : World) (Fz Fz' : PSet) (S : PSet) (args : Array Value) (v : Value) (r : C) (os : List (Option C)) (U : Nat → PSet) : Prop where
  side : w'.os = w.os ∧ w'.output = w.output
  size : w.heap.size ≤ w'.heap.size
  blk : ∀ b, b < w.heap.size → (∀ o, ¬ S b o) → w'.heap[b]? = w.heap[b]?
  cell : ∀ b o, b < w.heap.size → ¬ S b o → w'.cell? (at_ b o) = w.cell? (at_ b o) ∧ w'.frz? (at_ b o) = w.frz? (at_ b o)
  fz : ∀ b o, Fz b o → Fz' b o
  fzlt : ∀ b o, Fz' b o → b < w'.heap.size
  fzof : ∀ b o, Fz' b o → Fz b o ∨ S b o ∨ w.heap.size ≤ b
  res : RC w' Fz' r v (U 0)
  outs : ∀ (m : Nat) c, os[m]? = some (some c) → RC w' Fz' c (args.getD m Go.undef) (U (m + 1))
  disj : ∀ i j, i ≠ j → ∀ x y, U i x y → ¬ U j x y
  mine : ∀ i x y, U i x y → (S x y ∨ w.heap.size ≤ x) ∧ ¬ Fz' x y ∧ x < w'.heap.size
def Goes (P : Program) (f : FuncId) : Prop := ∃ fn, P.funcs[f]? = some fn ∧ (fn.name == "runtime.NumGoroutine") = false ∧ fn.body.isNone = false
def Valid (P : Program) (G : GV) (f : FuncId) (cs : List C) (r : C) (os : List (Option C)) : Prop :=
  Goes P f ∧ ∀ (w : World) (args : Array Value) (Fz : PSet) (U : Nat → PSet), (∀ b p, G b = some p → (∀ o, Fz b o) ∧ ∃ ob, w.heap[b]? = some ob ∧ p ob) → (∀ b o, Fz b o → b < w.heap.size) → RCs w Fz cs args U → (∀ i, i < cs.length → ∀ x y, U i x y → ¬ Fz x y) →
    Calls P f args w fun e w' => ∃ v Fz' U', e = .returned v ∧ Post w w' Fz Fz' (fun x y => ∃ i, i < cs.length ∧ U i x y) args v r os U'
end Go.Proofs.YtmihpclfdicfkaaDoor.Ab

namespace Go.Proofs.YtmihpclfdicfkaaDoor.Ab
theorem Shr.ind {w : World} {Fz Fz' : PSet} {v : Value} {d : D} (h : Shr w Fz v d) (hi : IndD 0 d) : Shr w Fz' v d := by
  cases h with
  | bool b => exact .bool b
  | int k n => exact .int k n
  | str s => exact .str s
  | emp a cap sz => exact .emp a cap sz
  | slc b off cap sz rows vs hr hcap hc hs =>
    have : rows = [] := hi
    subst this
    exact .emp _ _ _
  | fn f caps capv bs offs vs hl hb hc hs =>
    have : caps = [] := hi
    subst this
    exact .fn f [] capv bs offs vs hl (fun i row h => by simp at h) (fun i row m d h => by simp at h) (fun i row m d h => by simp at h)
  | nilIface => exact .nilIface
  | iface t v => exact .iface t v
  | ifc t k n => exact .ifc t k n
  | hole v h1 => exact .hole v h1
theorem mem_flat {rows : List (List D)} {m : Nat} {d : D} (h : rows.flatten[m]? = some d) : ∃ row, row ∈ rows ∧ d ∈ row := by
  obtain ⟨row, h1, h2⟩ := List.mem_flatten.1 (List.mem_of_getElem? h)
  exact ⟨row, h1, h2⟩
theorem Own.ind {w : World} {Fz Fz' : PSet} : ∀ (k : Nat) {v : Value} {d : D} {S : PSet}, Own w Fz k v d S → IndD k d → Own w Fz' k v d S := by
  intro k
  induction k with
  | zero => intro v d S h hi; exact ⟨h.1.ind hi, h.2⟩
  | succ k ih =>
    intro v d S h hi
    cases d with
    | slc sz rows =>
      rcases h with h | ⟨b, off, cap, T, rfl, h1, h2, h3, h4, h5, h6, h7⟩
      · exact .inl h
      · refine .inr ⟨b, off, cap, T, rfl, h1, h2, h3, fun m d hm => ?_, h5, h6, h7⟩
        obtain ⟨u, hu, ho⟩ := h4 m d hm
        obtain ⟨row, hr, hd⟩ := mem_flat hm
        exact ⟨u, hu, ih ho (hi row hr d hd)⟩
    | fn f caps => exact ⟨h.1.ind hi, h.2⟩
    | _ => exact ⟨h.1.ind trivial, h.2⟩
theorem IndCs.get : ∀ {cells : List C}, IndCs cells → ∀ (m : Nat) c, cells[m]? = some c → IndC c := by
  intro cells
  induction cells with
  | nil => intro _ m c h; simp at h
  | cons a r ih =>
    intro h m c hm
    unfold IndCs at h
    cases m with
    | zero => simp at hm; subst hm; exact h.1
    | succ m => exact ih h.2 m c (by simpa using hm)
theorem RC.ind {w : World} {Fz Fz' : PSet} {c : C} {v : Value} {S : PSet} (h : RC w Fz c v S) : IndC c → RC w Fz' c v S := by
  induction h with
  | d x v S h hS => intro hi; unfold IndC at hi; exact .d x v S (h.ind hi) hS
  | own k sz rows v S h => intro hi; unfold IndC at hi; exact .own k sz rows v S (Own.ind (k + 1) h hi)
  | nil k sz S hS => intro _; exact .nil k sz S hS
  | box cells b o vs T S hr hc hs hd hn hS ih => intro hi; unfold IndC at hi; exact .box cells b o vs T S hr hc (fun m c hm => ih m c hm (hi.get m c hm)) hd hn hS
  | rp row b o vs S hc hs hS => intro hi; unfold IndC at hi; exact hi.elim
  | agg cells vs T S hl h1 hs hd hS ih => intro hi; unfold IndC at hi; exact .agg cells vs T S hl h1 (fun m c hm => ih m c hm (hi.get m c hm)) hd hS
  | tup cells vs T S hl hs hd hS ih => intro hi; unfold IndC at hi; exact .tup cells vs T S hl (fun m c hm => ih m c hm (hi.get m c hm)) hd hS
section
variable {c : Ctx} {g : Gh} {w : World} {e : Env}
def Lent (g : Gh) (h : Nat → Option O) (w : World) (Z : PSet) (v : Value) (r : C) (l : List Nat) : Prop :=
  (∃ S, RC w Z r v S ∧ ∀ x y, S x y → ∃ n, n ∈ l ∧ g.F n x y) ∧ ∀ n, n ∈ l → ∃ o, h n = some o
theorem closeD_live (hi : HInv c g e.h w) {f : Nat} {a : A} {v : Value} {d : D × List Nat} (hx : RA g e.h w a v) (h : Out e (closeD f a) d) : ∀ n, n ∈ d.2 → ∃ ob, e.h n = some ob :=
  (closeD_shr hi f a v d (fun _ _ => True) hx h (fun _ _ _ => trivial) (fun _ _ _ _ _ => trivial)).2
theorem out_lendCell (hi : HInv c g e.h w) {Z : PSet} {a : A} {v : Value} {r : C × List Nat × List Nat} (hx : RA g e.h w a v) (h : Out e (lendCell a) r) (hz : ∀ b o, g.Fz b o → Z b o)
    (hZ : ∀ n, n ∈ r.2.2 → ∀ b o, g.F n b o → Z b o) : Lent g e.h w Z v r.1 r.2.1 ∧ ∀ n, n ∈ r.2.2 → ∃ o, e.h n = some o := by
  have hk : Keeps w w g.Fz := Keeps.refl _ _
  have plain : ∀ {a : A}, RA g e.h w a v → Out e ((closeD 3 a).bind fun x => .ret (.d x.1, [], x.2)) r → Lent g e.h w Z v r.1 r.2.1 ∧ ∀ n, n ∈ r.2.2 → ∃ o, e.h n = some o := by
    intro a hx h
    obtain ⟨d, h1, h2⟩ := Out.bind h
    have := h2.ret
    subst this
    obtain ⟨h3, h4⟩ := closeD_shr hi 3 a v d Z hx h1 hz hZ
    exact ⟨⟨⟨fun _ _ => False, .d _ _ _ h3 (fun _ _ h => h), fun _ _ h => h.elim⟩, fun n hn => by simp at hn⟩, h4⟩
  unfold lendCell at h
  split at h
  · rename_i n
    obtain ⟨o, ho, h⟩ := h.rh
    split at h
    · rename_i ver k sz rows
      rw [h.ret] at *
      cases hx with | sl _ hn hone1 => ?_
      exact ⟨⟨⟨g.F n, .own _ _ _ _ _ (Own.mono hz hk (k + 1) (Keeps.refl _ _) (hi.obj n _ ho)), fun x y h => ⟨n, by simp, h⟩⟩, fun q hq => by simp at hq; subst hq; exact ⟨_, ho⟩⟩, fun q hq => by simp at hq⟩
    · exact h.fail.elim
  · rename_i n ver p
    obtain ⟨o, ho, h⟩ := h.rh
    split at h
    · rename_i ver' k sz rows
      split at h
      · rename_i hc
        obtain ⟨hv, hpk⟩ := hc
        subst hv
        split at h
        · rename_i sz' rows' hrows
          rw [h.ret] at *
          cases hx with | inn _ _ _ _ hn hone he => ?_
          have hh1 := (he _ _ _ _ ho).2 rfl
          have hown : Own w g.Fz (k + 1) (g.ν n) (.slc sz rows) (g.F n) := hi.obj n _ ho
          obtain ⟨S', ho', hS⟩ := own_at p _ _ _ _ _ _ _ _ hown hh1 hrows
          have hkk : k + 1 - p.length = (k - p.length) + 1 := by omega
          rw [hkk] at ho'
          exact ⟨⟨⟨S', .own _ _ _ _ _ (Own.mono hz hk _ (Keeps.refl _ _) ho'), fun x y h => ⟨n, by simp, hS x y h⟩⟩, fun q hq => by simp at hq; subst hq; exact ⟨_, ho⟩⟩, fun q hq => by simp at hq⟩
        · exact h.fail.elim
      · exact h.fail.elim
    · exact h.fail.elim
  · rename_i k sz
    rw [h.ret] at *
    cases hx
    exact ⟨⟨⟨_, .own _ _ _ _ _ (own_empty (.inl rfl)), fun _ _ h => h.elim⟩, fun q hq => by simp at hq⟩, fun q hq => by simp at hq⟩
  · exact plain hx h
theorem out_lendCells (hi : HInv c g e.h w) {Z : PSet} : ∀ (cells : List A) (vs : Nat → Value) (r : List C × List Nat × List Nat), (∀ (m : Nat) a, cells[m]? = some a → RA g e.h w a (vs m)) → Out e (lendCells cells) r →
    (∀ b o, g.Fz b o → Z b o) → (∀ n, n ∈ r.2.2 → ∀ b o, g.F n b o → Z b o) → r.2.1.Nodup →
    r.1.length = cells.length ∧ (∀ n, n ∈ r.2.1 → ∃ o, e.h n = some o) ∧ (∀ n, n ∈ r.2.2 → ∃ o, e.h n = some o) ∧
    ∃ T : Nat → PSet, (∀ (m : Nat) c, r.1[m]? = some c → RC w Z c (vs m) (T m)) ∧ (∀ m x y, T m x y → ∃ n, n ∈ r.2.1 ∧ g.F n x y) ∧ Disj r.1.length T := by
  intro cells
  induction cells with
  | nil =>
    intro vs r _ h _ _ _
    have := h.ret
    subst this
    exact ⟨rfl, fun n hn => by simp at hn, fun n hn => by simp at hn, fun _ _ _ => False, fun m c hm => by simp at hm, fun _ _ _ h => h.elim, fun i j hi' => by simp at hi'⟩
  | cons a cells ih =>
    intro vs r hra h hz hZ hnd
    unfold lendCells at h
    obtain ⟨⟨c0, l0, b0⟩, h1, h2⟩ := Out.bind h
    simp only at h2
    obtain ⟨⟨cs, ls, bs⟩, h3, h4⟩ := Out.bind h2
    simp only at h4
    have := h4.ret
    subst this
    simp only at hZ hnd ⊢
    rw [List.nodup_append] at hnd
    obtain ⟨hn1, hn2, hn3⟩ := hnd
    obtain ⟨⟨⟨S0, q1, q2⟩, q3⟩, q4⟩ := out_lendCell hi (hra 0 a rfl) h1 hz (fun n hn => hZ n (by simp [hn]))
    obtain ⟨i1, i2, i3, T, i4, i5, i6⟩ := ih (fun m => vs (m + 1)) _ (fun m a' hm => hra (m + 1) a' (by simpa using hm)) h3 hz (fun n hn => hZ n (by simp [hn])) hn2
    simp only at q2 q3 q4 i1 i2 i3 i4 i5 i6
    have hx : ∀ x y m, S0 x y → T m x y → False := by
      intro x y m h5 h6
      obtain ⟨n1, a1, b1⟩ := q2 x y h5
      obtain ⟨n2, a2, b2⟩ := i5 m x y h6
      obtain ⟨o1, p1⟩ := q3 n1 a1
      obtain ⟨o2, p2⟩ := i2 n2 a2
      exact hi.disj n1 n2 o1 o2 p1 p2 (hn3 n1 a1 n2 a2) x y b1 b2
    refine ⟨by simp [i1], fun n hn => (List.mem_append.1 hn).elim (q3 n) (i2 n), fun n hn => (List.mem_append.1 hn).elim (q4 n) (i3 n), fun m => (match m with | 0 => S0 | m + 1 => T m), fun m c hm => ?_, fun m x y hT => ?_, fun i j hi' hj hij x y hT hT' => ?_⟩
    · cases m with
      | zero => simp at hm; subst hm; exact q1
      | succ m => exact i4 m c (by simpa using hm)
    · cases m with
      | zero => obtain ⟨n, h5, h6⟩ := q2 x y hT; exact ⟨n, by simp [h5], h6⟩
      | succ m => obtain ⟨n, h5, h6⟩ := i5 m x y hT; exact ⟨n, by simp [h5], h6⟩
    · cases i with
      | zero =>
        cases j with
        | zero => exact hij rfl
        | succ j => exact hx x y j hT hT'
      | succ i =>
        cases j with
        | zero => exact hx x y i hT' hT
        | succ j => exact i6 i j (by simpa using hi') (by simpa using hj) (by omega) x y hT hT'
theorem out_giveCell (hi : HInv c g e.h w) {Z : PSet} {a : A} {v : Value} {r : C × List Nat × List Nat} (hx : RA g e.h w a v) (h : Out e (giveCell a) r) (hz : ∀ b o, g.Fz b o → Z b o)
    (hZ : ∀ n, n ∈ r.2.2 → ∀ b o, g.F n b o → Z b o) : Lent g e.h w Z v r.1 r.2.1 ∧ ∀ n, n ∈ r.2.2 → ∃ o, e.h n = some o := by
  unfold giveCell at h
  split at h
  · obtain ⟨q, h1, h2⟩ := Out.bind h
    have := h2.ret
    subst this
    obtain ⟨S1, m1, m2, m3, m4⟩ := out_ownA hi hx h1
    exact ⟨⟨⟨S1, .own _ _ _ _ _ (Own.mono hz (Keeps.refl _ _) _ (Keeps.refl _ _) m1), fun x y h => by simpa using m2 x y h⟩, fun n hn => m4 n (by simpa using hn)⟩, fun n hn => by simp at hn⟩
  · exact out_lendCell hi hx h hz hZ
theorem out_giveCells (hi : HInv c g e.h w) {Z : PSet} : ∀ (cells : List A) (vs : Nat → Value) (r : List C × List Nat × List Nat), (∀ (m : Nat) a, cells[m]? = some a → RA g e.h w a (vs m)) → Out e (giveCells cells) r →
    (∀ b o, g.Fz b o → Z b o) → (∀ n, n ∈ r.2.2 → ∀ b o, g.F n b o → Z b o) → r.2.1.Nodup →
    r.1.length = cells.length ∧ (∀ n, n ∈ r.2.1 → ∃ o, e.h n = some o) ∧ (∀ n, n ∈ r.2.2 → ∃ o, e.h n = some o) ∧
    ∃ T : Nat → PSet, (∀ (m : Nat) c, r.1[m]? = some c → RC w Z c (vs m) (T m)) ∧ (∀ m x y, T m x y → ∃ n, n ∈ r.2.1 ∧ g.F n x y) ∧ Disj r.1.length T := by
  intro cells
  induction cells with
  | nil =>
    intro vs r _ h _ _ _
    have := h.ret
    subst this
    exact ⟨rfl, fun n hn => by simp at hn, fun n hn => by simp at hn, fun _ _ _ => False, fun m c hm => by simp at hm, fun _ _ _ h => h.elim, fun i j hi' => by simp at hi'⟩
  | cons a cells ih =>
    intro vs r hra h hz hZ hnd
    unfold giveCells at h
    obtain ⟨⟨c0, l0, b0⟩, h1, h2⟩ := Out.bind h
    simp only at h2
    obtain ⟨⟨cs, ls, bs⟩, h3, h4⟩ := Out.bind h2
    simp only at h4
    have := h4.ret
    subst this
    simp only at hZ hnd ⊢
    rw [List.nodup_append] at hnd
    obtain ⟨hn1, hn2, hn3⟩ := hnd
    obtain ⟨⟨⟨S0, q1, q2⟩, q3⟩, q4⟩ := out_giveCell hi (hra 0 a rfl) h1 hz (fun n hn => hZ n (by simp [hn]))
    obtain ⟨i1, i2, i3, T, i4, i5, i6⟩ := ih (fun m => vs (m + 1)) _ (fun m a' hm => hra (m + 1) a' (by simpa using hm)) h3 hz (fun n hn => hZ n (by simp [hn])) hn2
    simp only at q2 q3 q4 i1 i2 i3 i4 i5 i6
    have hx : ∀ x y m, S0 x y → T m x y → False := by
      intro x y m h5 h6
      obtain ⟨n1, a1, b1⟩ := q2 x y h5
      obtain ⟨n2, a2, b2⟩ := i5 m x y h6
      obtain ⟨o1, p1⟩ := q3 n1 a1
      obtain ⟨o2, p2⟩ := i2 n2 a2
      exact hi.disj n1 n2 o1 o2 p1 p2 (hn3 n1 a1 n2 a2) x y b1 b2
    refine ⟨by simp [i1], fun n hn => (List.mem_append.1 hn).elim (q3 n) (i2 n), fun n hn => (List.mem_append.1 hn).elim (q4 n) (i3 n), fun m => (match m with | 0 => S0 | m + 1 => T m), fun m c hm => ?_, fun m x y hT => ?_, fun i j hi' hj hij x y hT hT' => ?_⟩
    · cases m with
      | zero => simp at hm; subst hm; exact q1
      | succ m => exact i4 m c (by simpa using hm)
    · cases m with
      | zero => obtain ⟨n, h5, h6⟩ := q2 x y hT; exact ⟨n, by simp [h5], h6⟩
      | succ m => obtain ⟨n, h5, h6⟩ := i5 m x y hT; exact ⟨n, by simp [h5], h6⟩
    · cases i with
      | zero =>
        cases j with
        | zero => exact hij rfl
        | succ j => exact hx x y j hT hT'
      | succ i =>
        cases j with
        | zero => exact hx x y i hT' hT
        | succ j => exact i6 i j (by simpa using hi') (by simpa using hj) (by omega) x y hT hT'
theorem out_lendCells_cellB {cells : List A} {r : List C × List Nat × List Nat} (h : Out e (lendCells cells) r) : ∀ a, a ∈ cells → a.cellB = true := by
  induction cells generalizing r with
  | nil => intro a ha; simp at ha
  | cons a0 cells ih =>
    intro a ha
    unfold lendCells at h
    obtain ⟨x, h1, h2⟩ := Out.bind h
    obtain ⟨y, h3, h4⟩ := Out.bind h2
    rcases List.mem_cons.1 ha with rfl | ha
    · unfold lendCell at h1
      split at h1
      · rfl
      · rfl
      · rfl
      · obtain ⟨d, h5, _⟩ := Out.bind h1
        cases a with
        | agg => exact h5.fail.elim
        | tup => exact h5.fail.elim
        | skip => exact h5.fail.elim
        | undef => exact h5.fail.elim
        | _ => rfl
    · exact ih h3 a ha
theorem out_closeArg (hi : HInv c g e.h w) {Z : PSet} {m : Mode} {a : A} {v : Value} {r : C × List Nat × List Nat × List Nat} (hx : RA g e.h w a v) (h : Out e (closeArg m a) r) (hz : ∀ b o, g.Fz b o → Z b o)
    (hZ : ∀ n, n ∈ r.2.2.2 → ∀ b o, g.F n b o → Z b o) (hnd : (r.2.1 ++ r.2.2.1).Nodup) : Lent g e.h w Z v r.1 (r.2.1 ++ r.2.2.1) ∧ ∀ n, n ∈ r.2.2.2 → ∃ o, e.h n = some o := by
  have aggl : ∀ {cells : List A} {q : List C × List Nat × List Nat}, RA g e.h w (.agg cells) v → Out e (lendCells cells) q → (∀ n, n ∈ q.2.2 → ∀ b o, g.F n b o → Z b o) → q.2.1.Nodup → Lent g e.h w Z v (.agg q.1) q.2.1 ∧ ∀ n, n ∈ q.2.2 → ∃ o, e.h n = some o := by
    intro cells q hx h hZ hnd
    obtain ⟨vs, rfl, hl, h1, hc⟩ := hx.agg_inv
    obtain ⟨i1, i2, i3, T, i4, i5, i6⟩ := out_lendCells hi cells (fun m => vs.getD m Go.undef) q hc h hz hZ hnd
    refine ⟨⟨⟨fun x y => ∃ m, m < q.1.length ∧ T m x y, .agg _ _ T _ (by rw [hl, i1]) (fun m c hm => ?_) i4 i6 (fun x y => Iff.rfl), fun x y ⟨m, _, hT⟩ => i5 m x y hT⟩, i2⟩, i3⟩
    have hm' := (List.getElem?_eq_some_iff.1 hm).1
    exact h1 m _ (List.getElem?_eq_getElem (by omega))
  have aggg : ∀ {cells : List A} {q : List C × List Nat × List Nat}, RA g e.h w (.agg cells) v → Out e (giveCells cells) q → (∀ n, n ∈ q.2.2 → ∀ b o, g.F n b o → Z b o) → q.2.1.Nodup → Lent g e.h w Z v (.agg q.1) q.2.1 ∧ ∀ n, n ∈ q.2.2 → ∃ o, e.h n = some o := by
    intro cells q hx h hZ hnd
    obtain ⟨vs, rfl, hl, h1, hc⟩ := hx.agg_inv
    obtain ⟨i1, i2, i3, T, i4, i5, i6⟩ := out_giveCells hi cells (fun m => vs.getD m Go.undef) q hc h hz hZ hnd
    refine ⟨⟨⟨fun x y => ∃ m, m < q.1.length ∧ T m x y, .agg _ _ T _ (by rw [hl, i1]) (fun m c hm => ?_) i4 i6 (fun x y => Iff.rfl), fun x y ⟨m, _, hT⟩ => i5 m x y hT⟩, i2⟩, i3⟩
    have hm' := (List.getElem?_eq_some_iff.1 hm).1
    exact h1 m _ (List.getElem?_eq_getElem (by omega))
  unfold closeArg at h
  split at h
  · rename_i cells
    obtain ⟨ds, h1, h2⟩ := Out.bind h
    have := h2.ret
    subst this
    simp only at hZ hnd ⊢
    obtain ⟨vs, rfl, hl, h3, hc⟩ := hx.agg_inv
    obtain ⟨hl2, hget⟩ := h1.mapM
    have hds : ∀ (m : Nat) d, ds[m]? = some d → Shr w Z (vs.getD m Go.undef) d.1 ∧ ∀ n, n ∈ d.2 → ∃ ob, e.h n = some ob := by
      intro m d hm
      have hm' := (List.getElem?_eq_some_iff.1 hm).1
      have ha := List.getElem?_eq_getElem (show m < cells.length by omega)
      exact closeD_shr hi 3 _ _ d Z (hc m _ ha) (hget m _ d ha hm) hz (fun n hn => hZ n (List.mem_flatten.2 ⟨d.2, List.mem_map.2 ⟨d, List.mem_of_getElem? hm, rfl⟩, hn⟩))
    have hcs : ∀ (m : Nat) c', (ds.map fun x => C.d x.1)[m]? = some c' → ∃ d, ds[m]? = some d ∧ c' = .d d.1 := by
      intro m c' hm
      simp only [List.getElem?_map] at hm
      cases hd : ds[m]? with
      | none => simp [hd] at hm
      | some d => simp only [hd, Option.map_some, Option.some.injEq] at hm; exact ⟨d, rfl, hm.symm⟩
    refine ⟨⟨⟨fun _ _ => False, .agg _ _ (fun _ _ _ => False) _ (by simp; omega) (fun m c' hm => ?_) (fun m c' hm => ?_) (fun _ _ _ _ _ _ _ h => h.elim) (fun x y => ⟨fun h => h.elim, fun ⟨_, _, h⟩ => h⟩), fun _ _ h => h.elim⟩, fun n hn => by simp at hn⟩, fun n hn => ?_⟩
    · obtain ⟨d, hd, rfl⟩ := hcs m c' hm
      exact (hds m d hd).1.one
    · obtain ⟨d, hd, rfl⟩ := hcs m c' hm
      exact .d _ _ _ (hds m d hd).1 (fun _ _ h => h)
    · obtain ⟨l, hl', hn⟩ := List.mem_flatten.1 hn
      obtain ⟨d, hd, rfl⟩ := List.mem_map.1 hl'
      obtain ⟨i, hi', rfl⟩ := List.getElem_of_mem hd
      exact (hds i _ (List.getElem?_eq_getElem hi')).2 n hn
  · rename_i row off
    have := h.ret
    subst this
    cases hx with | rp _ _ b o vs hc hs => ?_
    refine ⟨⟨⟨fun _ _ => False, .rp _ _ _ (fun m => vs (off + m)) _ (fun m d hm => ?_) (fun m d hm => ?_) (fun _ _ h => h), fun _ _ h => h.elim⟩, fun n hn => by simp at hn⟩, fun n hn => by simp at hn⟩
    · rw [List.getElem?_drop] at hm
      obtain ⟨h1, h2⟩ := hc _ d hm
      exact ⟨by rw [Nat.add_assoc]; exact h1, by rw [Nat.add_assoc]; exact hz _ _ h2⟩
    · rw [List.getElem?_drop] at hm
      exact (hs _ d hm).mono (fun _ _ _ => rfl) hz
  · obtain ⟨d, h1, h2⟩ := Out.bind h
    have := h2.ret
    subst this
    obtain ⟨h3, h4⟩ := closeD_shr hi 3 _ v d Z hx h1 hz hZ
    exact ⟨⟨⟨fun _ _ => False, .d _ _ _ h3 (fun _ _ h => h), fun _ _ h => h.elim⟩, fun n hn => by simp at hn⟩, h4⟩
  · rename_i cells
    obtain ⟨q, h1, h2⟩ := Out.bind h
    have := h2.ret
    subst this
    obtain ⟨⟨p1, p2⟩, p3⟩ := aggl hx h1 hZ (by simpa using hnd)
    exact ⟨⟨by simpa using p1, by simpa using p2⟩, p3⟩
  · obtain ⟨q, h1, h2⟩ := Out.bind h
    have := h2.ret
    subst this
    obtain ⟨⟨p1, p2⟩, p3⟩ := out_lendCell hi hx h1 hz hZ
    exact ⟨⟨by simpa using p1, by simpa using p2⟩, p3⟩
  · rename_i cells
    obtain ⟨q, h1, h2⟩ := Out.bind h
    have := h2.ret
    subst this
    obtain ⟨⟨p1, p2⟩, p3⟩ := aggg hx h1 hZ (by simpa using hnd)
    exact ⟨⟨by simpa using p1, by simpa using p2⟩, p3⟩
  · obtain ⟨q, h1, h2⟩ := Out.bind h
    have := h2.ret
    subst this
    obtain ⟨S1, m1, m2, m3, m4⟩ := out_ownA hi hx h1
    exact ⟨⟨⟨S1, .own _ _ _ _ _ (Own.mono hz (Keeps.refl _ _) _ (Keeps.refl _ _) m1), fun x y h => by simpa using m2 x y h⟩, fun n hn => m4 n (by simpa using hn)⟩, fun n hn => by simp at hn⟩
  · obtain ⟨q, h1, h2⟩ := Out.bind h
    have := h2.ret
    subst this
    obtain ⟨⟨p1, p2⟩, p3⟩ := out_lendCell hi hx h1 hz hZ
    exact ⟨⟨by simpa using p1, by simpa using p2⟩, p3⟩
  · have := h.ret
    subst this
    cases hx
    exact ⟨⟨⟨fun _ _ => False, .nil _ _ _ (fun _ _ h => h), fun _ _ h => h.elim⟩, fun n hn => by simp at hn⟩, fun n hn => by simp at hn⟩
  · rename_i len n off
    obtain ⟨o, ho, h⟩ := h.rh
    split at h
    · rename_i cells
      split at h
      · rename_i hle
        obtain ⟨q, h1, h2⟩ := Out.bind h
        have := h2.ret
        subst this
        simp only [List.append_nil] at hnd ⊢
        obtain ⟨hnn, hnd⟩ := List.nodup_cons.1 hnd
        obtain ⟨b, o, hν, hr, hF, hc⟩ := hi.obj n _ ho
        cases hx with | ptr _ _ b' o' hn hν' => ?_
        rw [hν] at hν'
        cases hν'
        have hcl : ((cells.drop off).take len).length = len := by simp; omega
        have hu : ∀ (m : Nat) a, ((cells.drop off).take len)[m]? = some a → ∃ u, w.cell? (at_ b (o + off + m)) = some u ∧ u.oneCell' = true ∧ RA g e.h w a u := by
          intro m a hm
          have hm' : m < len := by have := (List.getElem?_eq_some_iff.1 hm).1; omega
          rw [List.getElem?_take_of_lt hm', List.getElem?_drop] at hm
          obtain ⟨u, h5, h6, h7⟩ := hc _ a hm
          exact ⟨u, by rw [Nat.add_assoc]; exact h5, h6, h7⟩
        obtain ⟨i1, i2, i3, T, i4, i5, i6⟩ := out_lendCells hi _ (fun m => (w.cell? (at_ b (o + off + m))).getD Go.undef) q (fun m a hm => by
          obtain ⟨u, h5, _, h7⟩ := hu m a hm
          rw [h5]; exact h7) h1 hz hZ hnd
        rw [hcl] at i1
        have hrng : ∀ x y, rng b (o + off) q.1.length x y → g.F n x y := fun x y h => (hF x y).2 ⟨h.1, by have := h.2.1; omega, by have := h.2.2; omega⟩
        refine ⟨⟨⟨fun x y => rng b (o + off) q.1.length x y ∨ ∃ m, m < q.1.length ∧ T m x y, .box _ _ _ (fun m => (w.cell? (at_ b (o + off + m))).getD Go.undef) T _ ?_ (fun m c hm => ?_) i4 i6 ?_ (fun x y => Iff.rfl), ?_⟩, ?_⟩, i3⟩
        · intro j hj
          have := hr (off + j) (by omega)
          rwa [← Nat.add_assoc] at this
        · have hm' := (List.getElem?_eq_some_iff.1 hm).1
          obtain ⟨u, h5, h6, _⟩ := hu m _ (List.getElem?_eq_getElem (by omega))
          exact ⟨by rw [h5]; rfl, by rw [h5]; exact h6⟩
        · intro m hm x y h5 h6
          obtain ⟨n2, a2, b2⟩ := i5 m x y h6
          obtain ⟨o2, p2⟩ := i2 n2 a2
          exact hi.disj n n2 _ o2 ho p2 (fun e => hnn (e ▸ a2)) x y (hrng x y h5) b2
        · rintro x y (h5 | ⟨m, hm, h5⟩)
          · exact ⟨n, by simp, hrng x y h5⟩
          · obtain ⟨n2, a2, b2⟩ := i5 m x y h5
            exact ⟨n2, by simp [a2], b2⟩
        · intro n2 hn2
          rcases List.mem_cons.1 hn2 with rfl | hn2
          · exact ⟨_, ho⟩
          · exact i2 n2 hn2
      · exact h.fail.elim
    · exact h.fail.elim
  · exact h.fail.elim
end
end Go.Proofs.YtmihpclfdicfkaaDoor.Ab

namespace Go.Proofs.YtmihpclfdicfkaaDoor.Ab
section
variable {c : Ctx} {g : Gh} {w : World} {e : Env}
theorem out_closeArgs (hi : HInv c g e.h w) {Z : PSet} : ∀ (as : List (Mode × A)) (vs : Nat → Value) (r : List C × List Nat × List Nat × List Nat), (∀ (m : Nat) p, as[m]? = some p → RA g e.h w p.2 (vs m)) → Out e (closeArgs as) r →
    (∀ b o, g.Fz b o → Z b o) → (∀ n, n ∈ r.2.2.2 → ∀ b o, g.F n b o → Z b o) → (r.2.1 ++ r.2.2.1).Nodup →
    r.1.length = as.length ∧ (∀ n, n ∈ r.2.1 ++ r.2.2.1 → ∃ o, e.h n = some o) ∧ (∀ n, n ∈ r.2.2.2 → ∃ o, e.h n = some o) ∧
    ∃ T : Nat → PSet, (∀ (m : Nat) c, r.1[m]? = some c → RC w Z c (vs m) (T m)) ∧ (∀ m, m < r.1.length → ∀ x y, T m x y → ∃ n, n ∈ r.2.1 ++ r.2.2.1 ∧ g.F n x y) ∧ Disj r.1.length T := by
  intro as
  induction as with
  | nil =>
    intro vs r _ h _ _ _
    have := h.ret
    subst this
    exact ⟨rfl, fun n hn => by simp at hn, fun n hn => by simp at hn, fun _ _ _ => False, fun m c hm => by simp at hm, fun _ _ _ _ h => h.elim, fun i j hi' => by simp at hi'⟩
  | cons a as ih =>
    intro vs r hra h hz hZ hnd
    obtain ⟨m0, a⟩ := a
    unfold closeArgs at h
    obtain ⟨⟨c0, l0, g0, b0⟩, h1, h2⟩ := Out.bind h
    simp only at h2
    obtain ⟨⟨cs, ls, gs, bs⟩, h3, h4⟩ := Out.bind h2
    simp only at h4
    have := h4.ret
    subst this
    simp only at hZ hnd ⊢
    have hnd0 : (l0 ++ g0).Nodup := by
      have : (l0 ++ g0).Sublist (l0 ++ ls ++ (g0 ++ gs)) := List.Sublist.append (List.sublist_append_left _ _) (List.sublist_append_left _ _)
      exact hnd.sublist this
    have hnds : (ls ++ gs).Nodup := by
      have : (ls ++ gs).Sublist (l0 ++ ls ++ (g0 ++ gs)) := List.Sublist.append (List.sublist_append_right _ _) (List.sublist_append_right _ _)
      exact hnd.sublist this
    have hap : ∀ n, n ∈ l0 ++ g0 → n ∉ ls ++ gs := by
      intro n hn hn'
      rw [List.nodup_append, List.nodup_append, List.nodup_append] at hnd
      obtain ⟨⟨a1, a2, a3⟩, ⟨a4, a5, a6⟩, a7⟩ := hnd
      rcases List.mem_append.1 hn with h5 | h5
      · rcases List.mem_append.1 hn' with h6 | h6
        · exact a3 n h5 n h6 rfl
        · exact a7 n (by simp [h5]) n (by simp [h6]) rfl
      · rcases List.mem_append.1 hn' with h6 | h6
        · exact a7 n (by simp [h6]) n (by simp [h5]) rfl
        · exact a6 n h5 n h6 rfl
    obtain ⟨⟨⟨S0, q1, q2⟩, q3⟩, q4⟩ := out_closeArg hi (hra 0 _ rfl) h1 hz (fun n hn => hZ n (by simp [hn])) hnd0
    obtain ⟨i1, i2, i3, T, i4, i5, i6⟩ := ih (fun m => vs (m + 1)) _ (fun m a' hm => hra (m + 1) a' (by simpa using hm)) h3 hz (fun n hn => hZ n (by simp [hn])) hnds
    simp only at q1 q2 q3 q4 i1 i2 i3 i4 i5 i6
    have hx : ∀ x y m, m < cs.length → S0 x y → T m x y → False := by
      intro x y m hm h5 h6
      obtain ⟨n1, a1, b1⟩ := q2 x y h5
      obtain ⟨n2, a2, b2⟩ := i5 m hm x y h6
      obtain ⟨o1, p1⟩ := q3 n1 a1
      obtain ⟨o2, p2⟩ := i2 n2 a2
      exact hi.disj n1 n2 o1 o2 p1 p2 (fun e => hap n1 a1 (e ▸ a2)) x y b1 b2
    have hmem0 : ∀ n, n ∈ l0 ++ g0 → n ∈ l0 ++ ls ++ (g0 ++ gs) := fun n hn => by
      rcases List.mem_append.1 hn with h5 | h5 <;> simp [h5]
    have hmems : ∀ n, n ∈ ls ++ gs → n ∈ l0 ++ ls ++ (g0 ++ gs) := fun n hn => by
      rcases List.mem_append.1 hn with h5 | h5 <;> simp [h5]
    refine ⟨by simp [i1], fun n hn => ?_, fun n hn => (List.mem_append.1 hn).elim (q4 n) (i3 n), fun m => (match m with | 0 => S0 | m + 1 => T m), fun m c hm => ?_, fun m hm x y hT => ?_, fun i j hi' hj hij x y hT hT' => ?_⟩
    · rcases List.mem_append.1 hn with h5 | h5
      · rcases List.mem_append.1 h5 with h6 | h6
        · exact q3 n (by simp [h6])
        · exact i2 n (by simp [h6])
      · rcases List.mem_append.1 h5 with h6 | h6
        · exact q3 n (by simp [h6])
        · exact i2 n (by simp [h6])
    · cases m with
      | zero => simp at hm; subst hm; exact q1
      | succ m => exact i4 m c (by simpa using hm)
    · cases m with
      | zero => obtain ⟨n, h5, h6⟩ := q2 x y hT; exact ⟨n, hmem0 n h5, h6⟩
      | succ m => obtain ⟨n, h5, h6⟩ := i5 m (by simpa using hm) x y hT; exact ⟨n, hmems n h5, h6⟩
    · cases i with
      | zero =>
        cases j with
        | zero => exact hij rfl
        | succ j => exact hx x y j (by simpa using hj) hT hT'
      | succ i =>
        cases j with
        | zero => exact hx x y i (by simpa using hi') hT' hT
        | succ j => exact i6 i j (by simpa using hi') (by simpa using hj) (by omega) x y hT hT'
end
structure OpW (w : World) (Fz : PSet) (νs : Nat → Value) (Fs : Nat → PSet) (S : PSet) (n m : Nat) (os : List (Nat × Option O)) (R : Gh → (Nat → Option O) → Prop) : Prop where
  le : n ≤ m
  key : ∀ q o, (q, o) ∈ os → n ≤ q ∧ q < m ∧ ∃ ob, o = some ob
  uniq : ∀ q, n ≤ q → q < m → ∃ ob, (q, some ob) ∈ os
  once : (os.map (·.1)).Nodup
  sub : ∀ q, n ≤ q → q < m → ∀ x y, Fs q x y → S x y
  disj : ∀ p q, n ≤ p → p < m → n ≤ q → q < m → p ≠ q → ∀ x y, Fs p x y → ¬ Fs q x y
  ok : ∀ (g : Gh) (h : Nat → Option O), g.Fz = Fz → (∀ q, n ≤ q → q < m → g.ν q = νs q ∧ g.F q = Fs q ∧ g.Nm q) → R g h ∧ ∀ q ob, (q, some ob) ∈ os → RO g h w q ob
def Opened (w : World) (Fz : PSet) (S : PSet) (n m : Nat) (os : List (Nat × Option O)) (R : Gh → (Nat → Option O) → Prop) : Prop := ∃ νs Fs, OpW w Fz νs Fs S n m os R
theorem Opened.empty {w : World} {Fz S : PSet} {n : Nat} {R : Gh → (Nat → Option O) → Prop} (hR : ∀ g h, g.Fz = Fz → R g h) : Opened w Fz S n n [] R :=
  ⟨fun _ => Go.undef, fun _ _ _ => False, Nat.le_refl _, fun q o h => by simp at h, fun q h1 h2 => by omega, List.nodup_nil, fun q h1 h2 => by omega, fun p q h1 h2 => by omega, fun g h hz _ => ⟨hR g h hz, fun q ob h => by simp at h⟩⟩
theorem Opened.one {w : World} {Fz S : PSet} {n : Nat} {v : Value} {ob : O} {R : Gh → (Nat → Option O) → Prop} (hR : ∀ g h, g.Fz = Fz → g.ν n = v → g.F n = S → g.Nm n → R g h ∧ RO g h w n ob) : Opened w Fz S n (n + 1) [(n, some ob)] R := by
  refine ⟨fun _ => v, fun _ => S, by omega, ?_, ?_, by simp, fun q _ _ x y h => h, fun p q h1 h2 h3 h4 h5 => by omega, ?_⟩
  · intro q o h
    simp at h
    obtain ⟨rfl, rfl⟩ := h
    exact ⟨by omega, by omega, _, rfl⟩
  · intro q h1 h2
    have : q = n := by omega
    subst this
    exact ⟨ob, by simp⟩
  · intro g h hz hq
    obtain ⟨h1, h2, h3⟩ := hq n (Nat.le_refl _) (by omega)
    obtain ⟨h4, h5⟩ := hR g h hz h1 h2 h3
    refine ⟨h4, fun q ob' hm => ?_⟩
    simp at hm
    obtain ⟨rfl, rfl⟩ := hm
    exact h5
theorem Opened.append {w : World} {Fz S1 S2 S : PSet} {n m k : Nat} {os1 os2 : List (Nat × Option O)} {R1 R2 R : Gh → (Nat → Option O) → Prop} (h1 : Opened w Fz S1 n m os1 R1) (h2 : Opened w Fz S2 m k os2 R2)
    (hd : ∀ x y, S1 x y → ¬ S2 x y) (hs1 : ∀ x y, S1 x y → S x y) (hs2 : ∀ x y, S2 x y → S x y) (hR : ∀ g h, R1 g h → R2 g h → R g h) : Opened w Fz S n k (os1 ++ os2) R := by
  obtain ⟨ν1, F1, a1, a2, a3, a4, a5, a6, a7⟩ := h1
  obtain ⟨ν2, F2, b1, b2, b3, b4, b5, b6, b7⟩ := h2
  refine ⟨fun q => if q < m then ν1 q else ν2 q, fun q => if q < m then F1 q else F2 q, by omega, ?_, ?_, ?_, ?_, ?_, ?_⟩
  · intro q o h
    rcases List.mem_append.1 h with h | h
    · obtain ⟨c1, c2, c3⟩ := a2 q o h; exact ⟨c1, by omega, c3⟩
    · obtain ⟨c1, c2, c3⟩ := b2 q o h; exact ⟨by omega, c2, c3⟩
  · intro q h1 h2
    by_cases hq : q < m
    · obtain ⟨ob, h⟩ := a3 q h1 hq; exact ⟨ob, by simp [h]⟩
    · obtain ⟨ob, h⟩ := b3 q (by omega) h2; exact ⟨ob, by simp [h]⟩
  · rw [List.map_append, List.nodup_append]
    refine ⟨a4, b4, fun x hx y hy => ?_⟩
    obtain ⟨⟨q, o⟩, h3, rfl⟩ := List.mem_map.1 hx
    obtain ⟨⟨q', o'⟩, h4, rfl⟩ := List.mem_map.1 hy
    have := (a2 q o h3).2.1
    have := (b2 q' o' h4).1
    simp only; omega
  · intro q h1 h2 x y h
    split at h
    · exact hs1 x y (a5 q h1 (by omega) x y h)
    · exact hs2 x y (b5 q (by omega) h2 x y h)
  · intro p q h1 h2 h3 h4 hne x y h5 h6
    split at h5
    · split at h6
      · exact a6 p q h1 (by omega) h3 (by omega) hne x y h5 h6
      · exact hd x y (a5 p h1 (by omega) x y h5) (b5 q (by omega) h4 x y h6)
    · split at h6
      · exact hd x y (a5 q h3 (by omega) x y h6) (b5 p (by omega) h2 x y h5)
      · exact b6 p q (by omega) h2 (by omega) h4 hne x y h5 h6
  · intro g h hz hq
    obtain ⟨c1, c2⟩ := a7 g h hz (fun q h1 h2 => by have := hq q h1 (by omega); simpa [h2] using this)
    obtain ⟨d1, d2⟩ := b7 g h hz (fun q h1 h2 => by
      have := hq q (by omega) h2
      have hn : ¬ q < m := by omega
      simpa [hn] using this)
    exact ⟨hR g h c1 d1, fun q ob hm => (List.mem_append.1 hm).elim (c2 q ob) (d2 q ob)⟩
theorem Opened.weaken {w : World} {Fz S S' : PSet} {n m : Nat} {os : List (Nat × Option O)} {R R' : Gh → (Nat → Option O) → Prop} (h : Opened w Fz S n m os R) (hs : ∀ x y, S x y → S' x y) (hR : ∀ g h, R g h → R' g h) : Opened w Fz S' n m os R' := by
  obtain ⟨ν1, F1, a1, a2, a3, a4, a5, a6, a7⟩ := h
  exact ⟨ν1, F1, a1, a2, a3, a4, fun q h1 h2 x y h => hs x y (a5 q h1 h2 x y h), a6, fun g h hz hq => ⟨hR g h (a7 g h hz hq).1, (a7 g h hz hq).2⟩⟩
def OpensC (w : World) (Fz : PSet) (c : C) (v : Value) (S : PSet) : Prop :=
  ∀ n, Opened w Fz S n (openC n c).2.2 (openC n c).2.1 fun g h => RA g h w (openC n c).1 v
theorem openL_ok {w : World} {Fz : PSet} : ∀ (cells : List C) (vs : Nat → Value) (T : Nat → PSet), (∀ (m : Nat) c, cells[m]? = some c → OpensC w Fz c (vs m) (T m)) → Disj cells.length T → ∀ n,
    (openC.openL n cells).1.length = cells.length ∧ Opened w Fz (fun x y => ∃ m, m < cells.length ∧ T m x y) n (openC.openL n cells).2.2 (openC.openL n cells).2.1 fun g h => ∀ (m : Nat) a, (openC.openL n cells).1[m]? = some a → RA g h w a (vs m) := by
  intro cells
  induction cells with
  | nil => intro vs T _ _ n; exact ⟨rfl, Opened.empty fun g h _ m a hm => by simp [openC.openL] at hm⟩
  | cons c cells ih =>
    intro vs T hs hd n
    have h0 := hs 0 c rfl n
    obtain ⟨i1, i2⟩ := ih (fun m => vs (m + 1)) (fun m => T (m + 1)) (fun m c' hm => hs (m + 1) c' (by simpa using hm)) (fun i j hi hj hij => hd (i + 1) (j + 1) (by simpa using hi) (by simpa using hj) (by omega)) (openC n c).2.2
    refine ⟨by simp [openC.openL, i1], ?_⟩
    refine h0.append i2 ?_ (fun x y h => ⟨0, by simp, h⟩) (fun x y ⟨m, hm, h⟩ => ⟨m + 1, by simpa using hm, h⟩) ?_
    · rintro x y h1 ⟨m, hm, h2⟩
      exact hd 0 (m + 1) (by simp) (by simpa using hm) (by omega) x y h1 h2
    · intro g h h1 h2 m a hm
      cases m with
      | zero => simp [openC.openL] at hm; subst hm; exact h1
      | succ m => exact h2 m a (by simpa [openC.openL] using hm)
theorem openC_ok {w : World} {Fz : PSet} {c : C} {v : Value} {S : PSet} (h : RC w Fz c v S) : OpensC w Fz c v S := by
  induction h with
  | d x v S h hS => intro n; exact Opened.empty fun g h' hz => .d _ _ (hz ▸ h)
  | nil k sz S hS => intro n; exact Opened.empty fun g h' hz => .nil k sz
  | own k sz rows v S h =>
    intro n
    exact Opened.one (v := v) fun g h' hz h1 h2 h3 => ⟨by
      have := RA.sl (g := g) (h := h') (w := w) n h3 (by rw [h1]; exact h.one)
      rw [h1] at this
      exact this, by
      show Own w g.Fz (k + 1) (g.ν n) (.slc sz rows) (g.F n)
      rw [hz, h1, h2]; exact h⟩
  | box cells b o vs T S hr hc hs hd hn hS ih =>
    intro n
    obtain ⟨i1, i2⟩ := openL_ok cells vs T (fun m c hm => ih m c hm) hd (n + 1)
    obtain ⟨ν1, F1, a1, a2, a3, a4, a5, a6, a7⟩ := i2
    have hxd : ∀ q, n + 1 ≤ q → q < (openC.openL (n + 1) cells).2.2 → ∀ x y, F1 q x y → ¬ rng b o cells.length x y := by
      intro q h1 h2 x y h h3
      obtain ⟨m, hm, hT⟩ := a5 q h1 h2 x y h
      exact hn m hm x y h3 hT
    show Opened w Fz S n (openC.openL (n + 1) cells).2.2 ((openC.openL (n + 1) cells).2.1 ++ [(n, some (.box (openC.openL (n + 1) cells).1))]) fun g h => RA g h w (.ptr n 0) _
    refine ⟨fun q => if q = n then .pointer (some (at_ b o)) else ν1 q, fun q => if q = n then rng b o cells.length else F1 q, by omega, ?_, ?_, ?_, ?_, ?_, ?_⟩
    · intro q ob h
      rcases List.mem_append.1 h with h | h
      · obtain ⟨c1, c2, c3⟩ := a2 q ob h; exact ⟨by omega, c2, c3⟩
      · simp at h; obtain ⟨rfl, rfl⟩ := h; exact ⟨Nat.le_refl _, by omega, _, rfl⟩
    · intro q h1 h2
      by_cases hq : q = n
      · subst hq; exact ⟨.box (openC.openL (q + 1) cells).1, List.mem_append.2 (.inr (by simp))⟩
      · obtain ⟨ob, h⟩ := a3 q (by omega) h2; exact ⟨ob, by simp [h]⟩
    · rw [List.map_append, List.nodup_append]
      refine ⟨a4, by simp, fun x hx y hy => ?_⟩
      obtain ⟨⟨q, ob⟩, h3, rfl⟩ := List.mem_map.1 hx
      simp at hy
      subst hy
      have := (a2 q ob h3).1
      simp only; omega
    · intro q h1 h2 x y h
      split at h
      · exact (hS x y).2 (.inl h)
      · exact (hS x y).2 (.inr (a5 q (by omega) h2 x y h))
    · intro p q h1 h2 h3 h4 hne x y h5 h6
      split at h5
      · split at h6
        · omega
        · exact hxd q (by omega) h4 x y h6 h5
      · split at h6
        · exact hxd p (by omega) h2 x y h5 h6
        · exact a6 p q (by omega) h2 (by omega) h4 hne x y h5 h6
    · intro g h hz hq
      obtain ⟨c1, c2⟩ := a7 g h hz (fun q h1 h2 => by
        have := hq q (by omega) h2
        have hne : ¬ q = n := by omega
        simpa [hne] using this)
      obtain ⟨d1, d2, d3⟩ := hq n (Nat.le_refl _) (by omega)
      simp only [if_pos] at d1 d2
      refine ⟨RA.ptr n 0 b o d3 d1, fun q ob hm => ?_⟩
      rcases List.mem_append.1 hm with hm | hm
      · exact c2 q ob hm
      · simp at hm
        obtain ⟨rfl, rfl⟩ := hm
        refine ⟨b, o, d1, by rw [i1]; exact hr, fun x y => by rw [d2, i1], fun m a ha => ?_⟩
        have hm' := (List.getElem?_eq_some_iff.1 ha).1
        obtain ⟨e1, e2⟩ := hc m _ (List.getElem?_eq_getElem (by omega))
        exact ⟨vs m, e1, e2, c1 m a ha⟩
  | rp row b o vs S hc hs hS =>
    intro n
    exact Opened.empty fun g h' hz => RA.rp row 0 b o vs (fun m d hm => ⟨(hc m d hm).1, hz ▸ (hc m d hm).2⟩) (fun m d hm => hz ▸ hs m d hm)
  | agg cells vs T S hl h1 hs hd hS ih =>
    intro n
    obtain ⟨i1, i2⟩ := openL_ok cells (fun m => vs.getD m Go.undef) T (fun m c hm => ih m c hm) hd n
    refine i2.weaken (fun x y h => (hS x y).2 h) fun g h h2 => .agg _ vs (by rw [hl, i1]) (fun m a hm => ?_) h2
    have hm' := (List.getElem?_eq_some_iff.1 hm).1
    exact h1 m _ (List.getElem?_eq_getElem (by omega))
  | tup cells vs T S hl hs hd hS ih =>
    intro n
    obtain ⟨i1, i2⟩ := openL_ok cells (fun m => vs.getD m Go.undef) T (fun m c hm => ih m c hm) hd n
    exact i2.weaken (fun x y h => (hS x y).2 h) fun g h h2 => .tup _ vs (by rw [hl, i1]) h2
end Go.Proofs.YtmihpclfdicfkaaDoor.Ab

namespace Go.Proofs.YtmihpclfdicfkaaDoor.Ab
theorem Own.uniq {w : World} {Fz Fz' : PSet} : ∀ (k : Nat) {v : Value} {d : D} {S S' : PSet}, Own w Fz k v d S → Own w Fz' k v d S' → ∀ x y, S x y → S' x y := by
  intro k
  induction k with
  | zero => intro v d S S' h _ x y hx; exact (h.2 x y hx).elim
  | succ k ih =>
    intro v d S S' h h' x y hx
    cases d with
    | slc sz rows =>
      rcases h with ⟨_, _, h⟩ | ⟨b, off, cap, T, rfl, h1, h2, h3, h4, h5, h6, h7⟩
      · exact (h x y hx).elim
      · rcases h' with ⟨h', _⟩ | ⟨b', off', cap', T', e, g1, g2, g3, g4, g5, g6, g7⟩
        · cases h'
        · cases e
          rcases (h7 x y).1 hx with h | ⟨m, hm, hT⟩
          · exact (g7 x y).2 (.inl h)
          · have hd := List.getElem?_eq_getElem hm
            obtain ⟨u, hu, ho⟩ := h4 m _ hd
            obtain ⟨u', hu', ho'⟩ := g4 m _ hd
            rw [hu] at hu'
            cases hu'
            exact (g7 x y).2 (.inr ⟨m, hm, ih ho ho' x y hT⟩)
    | _ => exact (h.2 x y hx).elim
structure BkW (w : World) (X : Gh → (Nat → Option O) → Prop) (νs : Nat → Value) (Fs : Nat → PSet) (S : PSet) (K : List Nat) (os : List (Nat × Option O)) (R : Gh → (Nat → Option O) → Prop) : Prop where
  key : os.map (·.1) = K
  some' : ∀ q o, (q, o) ∈ os → ∃ ob, o = some ob
  once : K.Nodup
  sub : ∀ q, q ∈ K → ∀ x y, Fs q x y → S x y
  disj : ∀ p q, p ∈ K → q ∈ K → p ≠ q → ∀ x y, Fs p x y → ¬ Fs q x y
  ok : ∀ (g : Gh) (h : Nat → Option O), X g h → (∀ q, q ∈ K → g.ν q = νs q ∧ g.F q = Fs q ∧ g.Nm q) → R g h ∧ ∀ q ob, (q, some ob) ∈ os → RO g h w q ob
def Backed (w : World) (X : Gh → (Nat → Option O) → Prop) (νo : Nat → Value) (S : PSet) (K : List Nat) (os : List (Nat × Option O)) (old : List Nat) (R : Gh → (Nat → Option O) → Prop) : Prop :=
  ∃ νs Fs, BkW w X νs Fs S K os R ∧ ∀ q, q ∈ K → q ∈ old → νs q = νo q
section
variable {w : World} {X : Gh → (Nat → Option O) → Prop} {νo : Nat → Value} {old : List Nat}
theorem Backed.empty {S : PSet} {R : Gh → (Nat → Option O) → Prop} (hR : ∀ g h, X g h → R g h) : Backed w X νo S [] [] old R :=
  ⟨fun _ => Go.undef, fun _ _ _ => False, ⟨rfl, fun q o h => by simp at h, List.nodup_nil, fun q h => by simp at h, fun p q h => by simp at h, fun g h hx _ => ⟨hR g h hx, fun q ob h => by simp at h⟩⟩, fun q h => by simp at h⟩
theorem Backed.one {S : PSet} {n : Nat} {v : Value} {ob : O} {R : Gh → (Nat → Option O) → Prop} (hv : n ∈ old → v = νo n) (hR : ∀ g h, X g h → g.ν n = v → g.F n = S → g.Nm n → R g h ∧ RO g h w n ob) : Backed w X νo S [n] [(n, some ob)] old R := by
  refine ⟨fun _ => v, fun _ => S, ⟨rfl, ?_, by simp, fun q _ x y h => h, ?_, ?_⟩, ?_⟩
  · intro q o h
    simp at h
    exact ⟨_, h.2⟩
  · intro p q h1 h2 h3
    simp at h1 h2; omega
  · intro g h hx hq
    obtain ⟨h1, h2, h3⟩ := hq n (by simp)
    obtain ⟨h4, h5⟩ := hR g h hx h1 h2 h3
    refine ⟨h4, fun q ob' hm => ?_⟩
    simp at hm
    obtain ⟨rfl, rfl⟩ := hm
    exact h5
  · intro q h1 h2
    simp at h1
    subst h1
    exact hv h2
theorem Backed.append {S1 S2 S : PSet} {K1 K2 : List Nat} {os1 os2 : List (Nat × Option O)} {R1 R2 R : Gh → (Nat → Option O) → Prop} (h1 : Backed w X νo S1 K1 os1 old R1) (h2 : Backed w X νo S2 K2 os2 old R2)
    (hk : ∀ q, q ∈ K1 → q ∉ K2) (hd : ∀ x y, S1 x y → ¬ S2 x y) (hs1 : ∀ x y, S1 x y → S x y) (hs2 : ∀ x y, S2 x y → S x y) (hR : ∀ g h, R1 g h → R2 g h → R g h) : Backed w X νo S (K1 ++ K2) (os1 ++ os2) old R := by
  obtain ⟨ν1, F1, ⟨a2, a3, a4, a5, a6, a7⟩, a8⟩ := h1
  obtain ⟨ν2, F2, ⟨b2, b3, b4, b5, b6, b7⟩, b8⟩ := h2
  refine ⟨fun q => if q ∈ K1 then ν1 q else ν2 q, fun q => if q ∈ K1 then F1 q else F2 q, ⟨by rw [List.map_append, a2, b2], ?_, ?_, ?_, ?_, ?_⟩, ?_⟩
  · intro q o h
    exact (List.mem_append.1 h).elim (a3 q o) (b3 q o)
  · exact List.nodup_append.2 ⟨a4, b4, fun x hx y hy e => hk x hx (e ▸ hy)⟩
  · intro q h1 x y h
    split at h
    · rename_i hq; exact hs1 x y (a5 q hq x y h)
    · rename_i hq; exact hs2 x y (b5 q ((List.mem_append.1 h1).resolve_left hq) x y h)
  · intro p q h1 h2 hne x y h5 h6
    split at h5
    · rename_i hp
      split at h6
      · rename_i hq; exact a6 p q hp hq hne x y h5 h6
      · rename_i hq; exact hd x y (a5 p hp x y h5) (b5 q ((List.mem_append.1 h2).resolve_left hq) x y h6)
    · rename_i hp
      split at h6
      · rename_i hq; exact hd x y (a5 q hq x y h6) (b5 p ((List.mem_append.1 h1).resolve_left hp) x y h5)
      · rename_i hq; exact b6 p q ((List.mem_append.1 h1).resolve_left hp) ((List.mem_append.1 h2).resolve_left hq) hne x y h5 h6
  · intro g h hx hq
    obtain ⟨c1, c2⟩ := a7 g h hx (fun q h1 => by have := hq q (by simp [h1]); simpa [h1] using this)
    obtain ⟨d1, d2⟩ := b7 g h hx (fun q h1 => by
      have := hq q (by simp [h1])
      have hn : ¬ q ∈ K1 := fun h => hk q h h1
      simpa [hn] using this)
    exact ⟨hR g h c1 d1, fun q ob hm => (List.mem_append.1 hm).elim (c2 q ob) (d2 q ob)⟩
  · intro q h1 h2
    by_cases hq : q ∈ K1
    · simp only [if_pos hq]; exact a8 q hq h2
    · simp only [if_neg hq]; exact b8 q ((List.mem_append.1 h1).resolve_left hq) h2
theorem Backed.weaken {S S' : PSet} {K : List Nat} {os : List (Nat × Option O)} {R R' : Gh → (Nat → Option O) → Prop} (h : Backed w X νo S K os old R) (hs : ∀ x y, S x y → S' x y) (hR : ∀ g h, X g h → R g h → R' g h) : Backed w X νo S' K os old R' := by
  obtain ⟨ν1, F1, ⟨a2, a3, a4, a5, a6, a7⟩, a8⟩ := h
  exact ⟨ν1, F1, ⟨a2, a3, a4, fun q h1 x y h => hs x y (a5 q h1 x y h), a6, fun g h hx hq => ⟨hR g h hx (a7 g h hx hq).1, (a7 g h hx hq).2⟩⟩, a8⟩
theorem Backed.of_opened {Fz S : PSet} {n m : Nat} {os : List (Nat × Option O)} {R : Gh → (Nat → Option O) → Prop} (h : Opened w Fz S n m os R) (hX : ∀ g h, X g h → g.Fz = Fz) (hold : ∀ q, q ∈ old → q < n ∨ m ≤ q) :
    Backed w X νo S (os.map (·.1)) os old R ∧ ∀ q, q ∈ os.map (·.1) → n ≤ q ∧ q < m := by
  obtain ⟨ν1, F1, a1, a2, a3, a4, a5, a6, a7⟩ := h
  have hk : ∀ q, q ∈ os.map (·.1) → n ≤ q ∧ q < m := by
    intro q hq
    obtain ⟨⟨q', o⟩, h1, rfl⟩ := List.mem_map.1 hq
    exact ⟨(a2 q' o h1).1, (a2 q' o h1).2.1⟩
  refine ⟨⟨ν1, F1, ⟨rfl, fun q o h => (a2 q o h).2.2, a4, fun q hq => a5 q (hk q hq).1 (hk q hq).2, fun p q hp hq => a6 p q (hk p hp).1 (hk p hp).2 (hk q hq).1 (hk q hq).2, fun g h hx hq => a7 g h (hX g h hx) fun q h1 h2 => ?_⟩, fun q h1 h2 => ?_⟩, hk⟩
  · obtain ⟨ob, hob⟩ := a3 q h1 h2
    exact hq q (List.mem_map.2 ⟨_, hob, rfl⟩)
  · have := hk q h1
    have := hold q h2
    omega
end
structure Behind (g : Gh) (h : Nat → Option O) (w w' : World) (Sall Fz' : PSet) : Prop where
  cell : ∀ b o, b < w.heap.size → ¬ Sall b o → w'.cell? (at_ b o) = w.cell? (at_ b o) ∧ w'.frz? (at_ b o) = w.frz? (at_ b o)
  fz : ∀ b o, g.Fz b o → Fz' b o
  apart : ∀ b o, g.Fz b o → ¬ Sall b o
section
variable {c : Ctx} {g : Gh} {w w' : World} {e : Env} {Sall Fz' : PSet}
def Next (g : Gh) (h : Nat → Option O) (w w' : World) (Fz' : PSet) (g' : Gh) (h' : Nat → Option O) : Prop := Ext g g' h h' w w' ∧ g'.Fz = Fz'
theorem out_backCell (hi : HInv c g e.h w) (hb : Behind g e.h w w' Sall Fz') {Z : PSet} {a : A} {u : Value} {c0 c1 : C} {l b : List Nat} {S0 V : PSet} {os : List (Nat × Option O)} {old : List Nat} (hold : ∀ n, n ∈ l → n ∈ old)
    (hra : RA g e.h w a u) (hlend : Out e (lendCell a) (c0, l, b)) (hc0 : RC w Z c0 u S0) (hS0 : ∀ n, n ∈ l → ∀ x y, g.F n x y → Sall x y → S0 x y) (hc1 : RC w' Fz' c1 u V) (hV : ∀ x y, V x y → Sall x y ∨ w.heap.size ≤ x)
    (hback : Out e (backCell a c1) os) : Backed w' (Next g e.h w w' Fz') g.ν (fun x y => V x y ∨ ∃ n, n ∈ l ∧ g.F n x y ∧ ¬ Sall x y) (os.map (·.1)) os old (fun _ _ => True) ∧ ∀ q, q ∈ os.map (·.1) → q ∈ l := by
  unfold backCell at hback
  split at hback
  · rename_i n k sz rows
    obtain ⟨o, ho, hback⟩ := hback.rh
    split at hback
    · rename_i ver k0 sz0 rows0
      split at hback
      case isFalse => exact hback.fail.elim
      rw [hback.ret]
      have hl : l = [n] := by
        unfold lendCell at hlend
        obtain ⟨o', ho', hlend⟩ := hlend.rh
        rw [ho] at ho'
        cases ho'
        have := hlend.ret
        cases this
        rfl
      subst hl
      refine ⟨?_, fun q hq => by simpa using hq⟩
      have hun : u = g.ν n := by cases hra; rfl
      subst hun
      refine (Backed.one (v := g.ν n) (S := V) (fun _ => rfl) fun g' h' hx h1 h2 h3 => ⟨trivial, ?_⟩).weaken (fun x y h => .inl h) (fun _ _ _ h => h)
      cases hc1 with | own _ _ _ _ _ hown => ?_
      show Own w' g'.Fz (k + 1) (g'.ν n) (.slc sz rows) (g'.F n)
      rw [hx.2, h1, h2]
      exact hown
    · exact hback.fail.elim
  · rename_i n ver p k' sz' rows'
    obtain ⟨o, ho, hback⟩ := hback.rh
    split at hback
    · rename_i ver0 k sz rows
      split at hback
      · rename_i hcond
        obtain ⟨hk', hsz'⟩ := hcond
        rw [hback.ret]
        unfold lendCell at hlend
        obtain ⟨o', ho', hlend⟩ := hlend.rh
        rw [ho] at ho'
        cases ho'
        simp only at hlend
        split at hlend
        · rename_i hc
          obtain ⟨hv, hpk⟩ := hc
          subst hv
          split at hlend
          · rename_i sz1 rows1 hrows
            have := hlend.ret
            cases this
            refine ⟨?_, fun q hq => by simpa using hq⟩
            have hs1 : sz1 = sz' := by rw [hrows] at hsz'; simpa using hsz'
            subst hs1
            cases hra with | inn _ _ _ _ hn hone he => ?_
            have hh1 := (he _ _ _ _ ho).2 rfl
            have hown : Own w g.Fz (k + 1) (g.ν n) (.slc sz rows) (g.F n) := hi.obj n _ ho
            obtain ⟨S1, s1, s2, s3⟩ := own_set p (k + 1) sz rows (g.ν n) u (g.F n) sz1 rows1 hown hh1 hrows (by omega)
            have hkk : k + 1 - p.length = (k - p.length) + 1 := by omega
            rw [hkk] at s2 s3
            cases hc0 with | own _ _ _ _ _ hown0 => ?_
            cases hc1 with | own _ _ _ _ _ hown1 => ?_
            subst hk'
            have e1 := Own.uniq _ s2 hown0
            have e2 := Own.uniq _ hown0 s2
            have hin : ∀ x y, g.F n x y → Sall x y → S1 x y := fun x y h h' => e2 x y (hS0 n (by simp) x y h h')
            have hfin := s3 w' Fz' rows' V hb.fz (fun x y hz => hb.cell x y (hi.fzlt x y hz) (hb.apart x y hz)) (fun x y h h' => hb.cell x y (hi.lt n _ ho x y h) fun hs => h' (hin x y h hs))
              (fun x y h => by
                by_cases hF : g.F n x y
                · rcases hV x y h with h5 | h5
                  · exact .inl (hin x y hF h5)
                  · have := hi.lt n _ ho x y hF; omega
                · exact .inr hF) hown1
            refine (Backed.one (v := g.ν n) (S := fun x y => (g.F n x y ∧ ¬ S1 x y) ∨ V x y) (fun _ => rfl) fun g' h' hx h1 h2 h3 => ⟨trivial, ?_⟩).weaken (fun x y h => ?_) (fun _ _ _ h => h)
            · show Own w' g'.Fz (k + 1) (g'.ν n) (.slc sz (setAt sz rows p rows')) (g'.F n)
              rw [hx.2, h1, h2]
              exact hfin
            · rcases h with ⟨h5, h6⟩ | h5
              · by_cases hs : Sall x y
                · exact absurd (hin x y h5 hs) h6
                · exact .inr ⟨n, by simp, h5, hs⟩
              · exact .inl h5
          · exact hlend.fail.elim
        · exact hlend.fail.elim
      · exact hback.fail.elim
    · exact hback.fail.elim
  · rw [hback.ret]
    exact ⟨Backed.empty fun _ _ _ => trivial, fun q hq => by simp at hq⟩
  · rw [hback.ret]
    exact ⟨Backed.empty fun _ _ _ => trivial, fun q hq => by simp at hq⟩
  · exact hback.fail.elim
end
end Go.Proofs.YtmihpclfdicfkaaDoor.Ab

namespace Go.Proofs.YtmihpclfdicfkaaDoor.Ab
theorem RC.uniq {w : World} {Fz Fz' : PSet} {c : C} {v : Value} {S S' : PSet} (h : RC w Fz c v S) : RC w Fz' c v S' → ∀ x y, S x y → S' x y := by
  intro h'
  induction h generalizing S' with
  | d x v S h hS => intro a b hx; exact (hS a b hx).elim
  | own k sz rows v S h => cases h' with | own _ _ _ _ _ h2 => exact Own.uniq _ h h2
  | nil k sz S hS => intro a b hx; exact (hS a b hx).elim
  | box cells b o vs T S hr hc hs hd hn hS ih =>
    cases h' with
    | box _ _ _ vs' T' _ hr' hc' hs' hd' hn' hS' =>
      intro x y hx
      rcases (hS x y).1 hx with h1 | ⟨m, hm, h1⟩
      · exact (hS' x y).2 (.inl h1)
      · have hcm := List.getElem?_eq_getElem hm
        have e : vs' m = vs m := by
          have := (hc m _ hcm).1.symm.trans (hc' m _ hcm).1
          exact (Option.some.inj this).symm
        exact (hS' x y).2 (.inr ⟨m, hm, ih m _ hcm (e ▸ hs' m _ hcm) x y h1⟩)
  | rp row b o vs S hc hs hS => intro a b hx; exact (hS a b hx).elim
  | agg cells vs T S hl h1 hs hd hS ih =>
    cases h' with
    | agg _ _ T' _ hl' h1' hs' hd' hS' =>
      intro x y hx
      obtain ⟨m, hm, h2⟩ := (hS x y).1 hx
      have hcm := List.getElem?_eq_getElem hm
      exact (hS' x y).2 ⟨m, hm, ih m _ hcm (hs' m _ hcm) x y h2⟩
  | tup cells vs T S hl hs hd hS ih =>
    cases h' with
    | tup _ _ T' _ hl' hs' hd' hS' =>
      intro x y hx
      obtain ⟨m, hm, h2⟩ := (hS x y).1 hx
      have hcm := List.getElem?_eq_getElem hm
      exact (hS' x y).2 ⟨m, hm, ih m _ hcm (hs' m _ hcm) x y h2⟩
section
variable {c : Ctx} {g : Gh} {w w' : World} {e : Env} {Sall Fz' : PSet}
def Reg (g : Gh) (Sall V : PSet) (l : List Nat) : PSet := fun x y => V x y ∨ ∃ n, n ∈ l ∧ g.F n x y ∧ ¬ Sall x y
theorem out_backCells (hi : HInv c g e.h w) (hb : Behind g e.h w w' Sall Fz') {Z : PSet} (hz : ∀ b o, g.Fz b o → Z b o) {old : List Nat} : ∀ (cells : List A) (vs : Nat → Value) (cs0 cs1 : List C) (l b : List Nat) (T0 V : Nat → PSet) (os : List (Nat × Option O)),
    (∀ n, n ∈ l → n ∈ old) → (∀ n, n ∈ b → ∀ x y, g.F n x y → Z x y) → l.Nodup → (∀ (m : Nat) a, cells[m]? = some a → RA g e.h w a (vs m)) → Out e (lendCells cells) (cs0, l, b) → (∀ (m : Nat) c, cs0[m]? = some c → RC w Z c (vs m) (T0 m)) →
    (∀ n, n ∈ l → ∀ x y, g.F n x y → Sall x y → ∃ m, m < cs0.length ∧ T0 m x y) → (∀ (m : Nat) c, cs1[m]? = some c → RC w' Fz' c (vs m) (V m)) → (∀ m x y, m < cs1.length → V m x y → Sall x y ∨ w.heap.size ≤ x) → Disj cs1.length V →
    Out e (backCells cells cs1) os → cs1.length = cells.length ∧ Backed w' (Next g e.h w w' Fz') g.ν (Reg g Sall (fun x y => ∃ m, m < cs1.length ∧ V m x y) l) (os.map (·.1)) os old (fun _ _ => True) ∧ ∀ q, q ∈ os.map (·.1) → q ∈ l := by
  intro cells
  induction cells with
  | nil =>
    intro vs cs0 cs1 l b T0 V os _ _ _ _ _ _ _ _ _ _ hback
    cases cs1 with
    | nil => rw [hback.ret]; exact ⟨rfl, Backed.empty fun _ _ _ => trivial, fun q hq => by simp at hq⟩
    | cons c1 s => exact hback.fail.elim
  | cons a cells ih =>
    intro vs cs0 cs1 l b T0 V os hold hbZ hnd hra hlend hT0 hcov hV1 hV2 hV3 hback
    cases cs1 with
    | nil => exact hback.fail.elim
    | cons c1 s =>
      unfold backCells at hback
      obtain ⟨x1, k1, k2⟩ := Out.bind hback
      obtain ⟨x2, k3, k4⟩ := Out.bind k2
      rw [k4.ret]
      unfold lendCells at hlend
      obtain ⟨⟨c0, l0, b0⟩, h1, h2⟩ := Out.bind hlend
      simp only at h2
      obtain ⟨⟨cs, ls, bs⟩, h3, h4⟩ := Out.bind h2
      simp only at h4
      have := h4.ret
      cases this
      rw [List.nodup_append] at hnd
      obtain ⟨hn1, hn2, hn3⟩ := hnd
      obtain ⟨⟨⟨S0, q1, q2⟩, q3⟩, q4⟩ := out_lendCell hi (hra 0 a rfl) h1 hz (fun n hn x y h => hbZ n (by simp [hn]) x y h)
      obtain ⟨i1, i2, i3, T, i4, i5, i6⟩ := out_lendCells hi cells (fun m => vs (m + 1)) _ (fun m a' hm => hra (m + 1) a' (by simpa using hm)) h3 hz (fun n hn x y h => hbZ n (by simp [hn]) x y h) hn2
      simp only at q1 q2 q3 i1 i2 i4 i5
      have u0 : ∀ x y, T0 0 x y → ∃ n, n ∈ l0 ∧ g.F n x y := fun x y h => q2 x y (RC.uniq (hT0 0 c0 rfl) q1 x y h)
      have us : ∀ m, m < cs.length → ∀ x y, T0 (m + 1) x y → ∃ n, n ∈ ls ∧ g.F n x y := by
        intro m hm x y h
        have hcm := List.getElem?_eq_getElem hm
        exact i5 m x y (RC.uniq (hT0 (m + 1) _ (by simp)) (i4 m _ hcm) x y h)
      have hdis : ∀ n1 n2 x y, n1 ∈ l0 → n2 ∈ ls → g.F n1 x y → g.F n2 x y → False := by
        intro n1 n2 x y a1 a2 b1 b2
        obtain ⟨o1, p1⟩ := q3 n1 a1
        obtain ⟨o2, p2⟩ := i2 n2 a2
        exact hi.disj n1 n2 o1 o2 p1 p2 (hn3 n1 a1 n2 a2) x y b1 b2
      obtain ⟨r1, r2⟩ := out_backCell hi hb (old := old) (fun n hn => hold n (by simp [hn])) (hra 0 a rfl) h1 (hT0 0 c0 rfl) (fun n hn x y h h' => by
        obtain ⟨m, hm, hT⟩ := hcov n (by simp [hn]) x y h h'
        cases m with
        | zero => exact hT
        | succ m =>
          obtain ⟨n2, a2, b2⟩ := us m (by simpa using hm) x y hT
          exact (hdis n n2 x y hn a2 h b2).elim) (hV1 0 c1 rfl) (fun x y h => hV2 0 x y (by simp) h) k1
      obtain ⟨t0, t1, t2⟩ := ih (fun m => vs (m + 1)) cs s ls bs (fun m => T0 (m + 1)) (fun m => V (m + 1)) x2 (fun n hn => hold n (by simp [hn])) (fun n hn => hbZ n (by simp [hn])) hn2 (fun m a' hm => hra (m + 1) a' (by simpa using hm)) h3
        (fun m c' hm => hT0 (m + 1) c' (by simpa using hm)) (fun n hn x y h h' => by
          obtain ⟨m, hm, hT⟩ := hcov n (by simp [hn]) x y h h'
          cases m with
          | zero =>
            obtain ⟨n2, a2, b2⟩ := u0 x y hT
            exact (hdis n2 n x y a2 hn b2 h).elim
          | succ m => exact ⟨m, by simpa using hm, hT⟩) (fun m c' hm => hV1 (m + 1) c' (by simpa using hm)) (fun m x y hm h => hV2 (m + 1) x y (by simpa using hm) h) (fun i j hi' hj hij => hV3 (i + 1) (j + 1) (by simpa using hi') (by simpa using hj) (by omega)) k3
      refine ⟨by simp [t0], ?_, ?_⟩
      · rw [List.map_append]
        refine r1.append t1 (fun q hq hq' => hn3 q (r2 q hq) q (t2 q hq') rfl) ?_ ?_ ?_ (fun _ _ _ _ => trivial)
        · rintro x y (h5 | ⟨n, hn, h5, h6⟩) (⟨m, hm, h7⟩ | ⟨n', hn', h7, h8⟩)
          · exact hV3 0 (m + 1) (by simp) (by simpa using hm) (by omega) x y h5 h7
          · rcases hV2 0 x y (by simp) h5 with h9 | h9
            · exact h8 h9
            · obtain ⟨o2, p2⟩ := i2 n' hn'
              have := hi.lt n' o2 p2 x y h7; omega
          · rcases hV2 (m + 1) x y (by simpa using hm) h7 with h9 | h9
            · exact h6 h9
            · obtain ⟨o2, p2⟩ := q3 n hn
              have := hi.lt n o2 p2 x y h5; omega
          · exact hdis n n' x y hn hn' h5 h7
        · rintro x y (h5 | ⟨n, hn, h5, h6⟩)
          · exact .inl ⟨0, by simp, h5⟩
          · exact .inr ⟨n, by simp [hn], h5, h6⟩
        · rintro x y (⟨m, hm, h5⟩ | ⟨n, hn, h5, h6⟩)
          · exact .inl ⟨m + 1, by simpa using hm, h5⟩
          · exact .inr ⟨n, by simp [hn], h5, h6⟩
      · intro q hq
        rw [List.map_append] at hq
        rcases List.mem_append.1 hq with h5 | h5
        · exact List.mem_append.2 (.inl (r2 q h5))
        · exact List.mem_append.2 (.inr (t2 q h5))
theorem out_backArg (hi : HInv c g e.h w) (hb : Behind g e.h w w' Sall Fz') {Z : PSet} (hz : ∀ b o, g.Fz b o → Z b o) {old : List Nat} {n0 : Nat} {m : Mode} {a : A} {v : Value} {r : C × List Nat × List Nat × List Nat} {S0 V : PSet} {oc : Option C} {os : List (Nat × Option O)} {n1 : Nat}
    (hold : ∀ n, n ∈ r.2.1 → n ∈ old) {N : Nat} (hN : n1 ≤ N) (hold0 : ∀ q, q ∈ old → q < n0 ∨ N ≤ q) (hbZ : ∀ n, n ∈ r.2.2.2 → ∀ x y, g.F n x y → Z x y) (hnd : (r.2.1 ++ r.2.2.1).Nodup) (hra : RA g e.h w a v) (hclose : Out e (closeArg m a) r) (hc0 : RC w Z r.1 v S0)
    (hcov : ∀ n, n ∈ r.2.1 → ∀ x y, g.F n x y → Sall x y → S0 x y) (hc1 : ∀ c1, oc = some c1 → RC w' Fz' c1 v V) (hV : ∀ x y, V x y → Sall x y ∨ w.heap.size ≤ x) (hback : Out e (backArg n0 m a oc) (os, n1)) :
    n0 ≤ n1 ∧ Backed w' (Next g e.h w w' Fz') g.ν (Reg g Sall V r.2.1) (os.map (·.1)) os old (fun _ _ => True) ∧ ∀ q, q ∈ os.map (·.1) → q ∈ r.2.1 ∨ (n0 ≤ q ∧ q < n1) := by
  unfold backArg at hback
  cases m with
  | borrow =>
    cases oc with
    | some c1 => exact hback.fail.elim
    | none =>
      have := hback.ret
      cases this
      exact ⟨Nat.le_refl _, Backed.empty fun _ _ _ => trivial, fun q hq => by simp at hq⟩
  | give =>
    cases oc with
    | some c1 => exact hback.fail.elim
    | none =>
      have := hback.ret
      cases this
      exact ⟨Nat.le_refl _, Backed.empty fun _ _ _ => trivial, fun q hq => by simp at hq⟩
  | nil =>
    cases oc with
    | some c1 => exact hback.fail.elim
    | none =>
      have := hback.ret
      cases this
      exact ⟨Nat.le_refl _, Backed.empty fun _ _ _ => trivial, fun q hq => by simp at hq⟩
  | lend =>
    cases oc with
    | none => exact hback.fail.elim
    | some c1 =>
      simp only at hback
      obtain ⟨x, k1, k2⟩ := Out.bind hback
      have := k2.ret
      cases this
      unfold backLend at k1
      by_cases hagg : ∃ cells, a = .agg cells
      · obtain ⟨cells, rfl⟩ := hagg
        simp only at k1
        cases c1 with
        | agg cs1 =>
          unfold closeArg at hclose
          obtain ⟨⟨cs, l, b⟩, h1, h2⟩ := Out.bind hclose
          have := h2.ret
          subst this
          simp only [List.append_nil] at hnd hold hbZ hcov ⊢
          obtain ⟨vs, rfl, hl, hone, hc⟩ := hra.agg_inv
          cases hc0 with | agg _ _ T0 _ hl0 h10 hs0 hd0 hS0 => ?_
          cases hc1 _ rfl with | agg _ _ V1 _ hl1 h11 hs1 hd1 hS1 => ?_
          obtain ⟨t0, t1, t2⟩ := out_backCells hi hb hz cells (fun m => vs.getD m Go.undef) cs cs1 l b T0 V1 _ hold hbZ hnd hc h1 hs0 (fun n hn x y h h' => (hS0 x y).1 (hcov n hn x y h h')) hs1 (fun m x y hm h => hV x y ((hS1 x y).2 ⟨m, hm, h⟩)) hd1 k1
          refine ⟨Nat.le_refl _, t1.weaken (fun x y h => ?_) (fun _ _ _ h => h), fun q hq => .inl (t2 q hq)⟩
          rcases h with h | h
          · exact .inl ((hS1 x y).2 h)
          · exact .inr h
        | _ => exact k1.fail.elim
      · have k1' : Out e (backCell a c1) os := by
          cases a with
          | agg cells => exact absurd ⟨cells, rfl⟩ hagg
          | _ => exact k1
        have hcl : Out e ((lendCell a).bind fun (c, l, b) => .ret (c, l, [], b)) r := by
          cases a with
          | agg cells => exact absurd ⟨cells, rfl⟩ hagg
          | _ => exact hclose
        obtain ⟨⟨c, l, b⟩, h1, h2⟩ := Out.bind hcl
        have := h2.ret
        subst this
        obtain ⟨t1, t2⟩ := out_backCell hi hb (old := old) hold hra h1 hc0 hcov (hc1 c1 rfl) hV k1'
        exact ⟨Nat.le_refl _, t1, fun q hq => .inl (t2 q hq)⟩
  | box len =>
    cases a with
    | ptr q off =>
      cases oc with
      | none => exact hback.fail.elim
      | some c1 =>
        cases c1 with
        | box cs1 =>
          simp only at hback
          unfold backBox at hback
          obtain ⟨o, ho, hback2⟩ := hback.rh
          clear hback
          split at hback2
          · rename_i cells
            split at hback2
            · rename_i hlen
              subst hlen
              have := hback2.ret
              cases this
              unfold closeArg at hclose
              obtain ⟨o', ho', hclose⟩ := hclose.rh
              rw [ho] at ho'
              cases ho'
              simp only at hclose
              split at hclose
              · rename_i hle
                obtain ⟨⟨cs, l, b⟩, h1, h2⟩ := Out.bind hclose
                have := h2.ret
                subst this
                simp only [List.append_nil] at hnd hold hbZ hcov ⊢
                obtain ⟨bb, oo, hν, hr, hF, hcell⟩ := hi.obj q _ ho
                cases hra with | ptr _ _ b' o' hn hν' => ?_
                rw [hν] at hν'
                cases hν'
                cases hc1 _ rfl with | box _ _ _ vs1 V1 _ hr1 hcell1 hs1 hd1 hn1 hS1 => ?_
                obtain ⟨w1, w2⟩ := openL_ok cs1 vs1 V1 (fun m c hm => openC_ok (hs1 m c hm)) hd1 n0
                have hold1 : ∀ p, p ∈ old → p < n0 ∨ (openC.openL n0 cs1).2.2 ≤ p := fun p hp => (hold0 p hp).imp id fun h => Nat.le_trans hN h
                obtain ⟨y1, y2⟩ := Backed.of_opened (X := Next g e.h w w' Fz') (νo := g.ν) w2 (fun _ _ hx => hx.2) hold1
                have hq0 := hold0 q (hold q (by simp))
                have hle1 : n0 ≤ (openC.openL n0 cs1).2.2 := by obtain ⟨_, _, hh⟩ := w2; exact hh.le
                obtain ⟨ν1, F1, ⟨a2, a3, a4, a5, a6, a7⟩, a8⟩ := y1
                have hqk : q ∉ (openC.openL n0 cs1).2.1.map (·.1) := fun h => by have := y2 q h; omega
                have hrF : ∀ x y, rng bb (oo + off) cs1.length x y → g.F q x y := fun x y h => (hF x y).2 ⟨h.1, by have := h.2.1; omega, by have := h.2.2; omega⟩
                have hFr : ∀ x y, g.F q x y → Sall x y → rng bb (oo + off) cs1.length x y := by
                  intro x y h h'
                  have h5 := hcov q (by simp) x y h h'
                  cases hc0 with | box _ _ _ vs0 T0 _ hr0 hcell0 hs0 hd0 hn0 hS0 => ?_
                  obtain ⟨hnn, hnd'⟩ := List.nodup_cons.1 hnd
                  have hcl : ((cells.drop off).take cs1.length).length = cs1.length := by simp; omega
                  have hu : ∀ (m : Nat) a, ((cells.drop off).take cs1.length)[m]? = some a → ∃ u, w.cell? (at_ bb (oo + off + m)) = some u ∧ u.oneCell' = true ∧ RA g e.h w a u := by
                    intro m a hm
                    have hm' : m < cs1.length := by have := (List.getElem?_eq_some_iff.1 hm).1; omega
                    rw [List.getElem?_take_of_lt hm', List.getElem?_drop] at hm
                    obtain ⟨u, h5, h6, h7⟩ := hcell _ a hm
                    exact ⟨u, by rw [Nat.add_assoc]; exact h5, h6, h7⟩
                  obtain ⟨i1, i2, i3, T, i4, i5, i6⟩ := out_lendCells hi _ (fun m => (w.cell? (at_ bb (oo + off + m))).getD Go.undef) _ (fun m a hm => by
                    obtain ⟨u, h5, _, h7⟩ := hu m a hm
                    rw [h5]; exact h7) h1 hz hbZ hnd'
                  simp only at i1 i2 i4 i5
                  rw [hcl] at i1
                  rcases (hS0 x y).1 h5 with h6 | ⟨m, hm, h6⟩
                  · rw [i1] at h6; exact h6
                  · have hcm := List.getElem?_eq_getElem hm
                    have hvm : vs0 m = (w.cell? (at_ bb (oo + off + m))).getD Go.undef := by rw [(hcell0 m _ hcm).1]; rfl
                    obtain ⟨n2, b1, b2⟩ := i5 m x y (RC.uniq (hvm ▸ hs0 m _ hcm) (i4 m _ hcm) x y h6)
                    obtain ⟨o2, p2⟩ := i2 n2 b1
                    exact (hi.disj q n2 _ o2 ho p2 (fun e => hnn (e ▸ b1)) x y h b2).elim
                have hVrng : ∀ x y, rng bb (oo + off) cs1.length x y → V x y := fun x y h => (hS1 x y).2 (.inl h)
                have hF1V : ∀ p, p ∈ (openC.openL n0 cs1).2.1.map (·.1) → ∀ x y, F1 p x y → V x y ∧ ¬ g.F q x y := by
                  intro p hp x y h
                  obtain ⟨m, hm, h5⟩ := a5 p hp x y h
                  have h6 : V x y := (hS1 x y).2 (.inr ⟨m, hm, h5⟩)
                  refine ⟨h6, fun h7 => ?_⟩
                  rcases hV x y h6 with h8 | h8
                  · exact hn1 m hm x y (hFr x y h7 h8) h5
                  · have := hi.lt q _ ho x y h7; omega
                refine ⟨hle1, ⟨fun p => if p = q then g.ν q else ν1 p, fun p => if p = q then g.F q else F1 p, ⟨by rw [List.map_append], ?_, ?_, ?_, ?_, ?_⟩, ?_⟩, ?_⟩
                · intro p o hp
                  rcases List.mem_append.1 hp with hp | hp
                  · exact a3 p o hp
                  · simp at hp; exact ⟨_, hp.2⟩
                · rw [List.map_append, List.nodup_append]
                  refine ⟨a4, by simp, fun x hx y hy => ?_⟩
                  simp at hy
                  subst hy
                  exact fun e => hqk (e ▸ hx)
                · intro p hp x y h
                  split at h
                  · by_cases hs : Sall x y
                    · exact .inl (hVrng x y (hFr x y h hs))
                    · exact .inr ⟨q, by simp, h, hs⟩
                  · rename_i hpq
                    have hp' : p ∈ (openC.openL n0 cs1).2.1.map (·.1) := by
                      rw [List.map_append] at hp
                      rcases List.mem_append.1 hp with hp | hp
                      · exact hp
                      · simp at hp; exact absurd hp hpq
                    exact .inl (hF1V p hp' x y h).1
                · intro p p' hp hp' hne x y h5 h6
                  have mem : ∀ p, p ∈ ((openC.openL n0 cs1).2.1 ++ [(q, some (O.box (setCells cells off (openC.openL n0 cs1).1)))]).map (·.1) → p ≠ q → p ∈ (openC.openL n0 cs1).2.1.map (·.1) := by
                    intro p hp hpq
                    rw [List.map_append] at hp
                    rcases List.mem_append.1 hp with hp | hp
                    · exact hp
                    · simp at hp; exact absurd hp hpq
                  split at h5
                  · split at h6
                    · omega
                    · rename_i hpq; exact (hF1V p' (mem p' hp' hpq) x y h6).2 h5
                  · rename_i hpq
                    split at h6
                    · exact (hF1V p (mem p hp hpq) x y h5).2 h6
                    · rename_i hpq'; exact a6 p p' (mem p hp hpq) (mem p' hp' hpq') hne x y h5 h6
                · intro g' h' hx hq
                  obtain ⟨c1, c2⟩ := a7 g' h' hx (fun p hp => by
                    have := hq p (by rw [List.map_append]; exact List.mem_append.2 (.inl hp))
                    have hne : ¬ p = q := fun e => hqk (e ▸ hp)
                    simpa [hne] using this)
                  obtain ⟨d1, d2, d3⟩ := hq q (by simp)
                  simp only [if_pos] at d1 d2
                  refine ⟨trivial, fun p ob hm => ?_⟩
                  rcases List.mem_append.1 hm with hm | hm
                  · exact c2 p ob hm
                  · simp at hm
                    obtain ⟨rfl, rfl⟩ := hm
                    have hsl : (setCells cells off (openC.openL n0 cs1).1).length = cells.length := by simp [setCells, w1]; omega
                    have hcl : ∀ j, j < cells.length → ¬ (off ≤ j ∧ j < off + cs1.length) → w'.cell? (at_ bb (oo + j)) = w.cell? (at_ bb (oo + j)) ∧ w'.frz? (at_ bb (oo + j)) = w.frz? (at_ bb (oo + j)) := by
                      intro j hj hnot
                      have hFj : g.F p bb (oo + j) := (hF _ _).2 ⟨rfl, by omega, by omega⟩
                      refine hb.cell bb (oo + j) (hi.lt p _ ho _ _ hFj) fun hs => hnot ?_
                      have := hFr _ _ hFj hs
                      exact ⟨by have := this.2.1; omega, by have := this.2.2; omega⟩
                    refine ⟨bb, oo, by rw [d1]; exact hν, ?_, fun x y => by rw [d2, hsl]; exact hF x y, ?_⟩
                    · rw [hsl]
                      intro j hj
                      by_cases hin : off ≤ j ∧ j < off + cs1.length
                      · have := hr1 (j - off) (by omega)
                        rw [show oo + off + (j - off) = oo + j by omega] at this
                        exact this
                      · obtain ⟨⟨u, hu⟩, hf⟩ := hr j hj
                        obtain ⟨e1, e2⟩ := hcl j hj hin
                        exact ⟨⟨u, e1.trans hu⟩, e2.trans hf⟩
                    · intro j a ha
                      rw [setCells_get _ _ _ _ (by omega), w1] at ha
                      by_cases hin : off ≤ j ∧ j < off + cs1.length
                      · rw [if_pos hin] at ha
                        obtain ⟨e1, e2⟩ := hcell1 (j - off) _ (List.getElem?_eq_getElem (by omega))
                        rw [show oo + off + (j - off) = oo + j by omega] at e1
                        exact ⟨_, e1, e2, c1 _ a ha⟩
                      · rw [if_neg hin] at ha
                        have hj := (List.getElem?_eq_some_iff.1 ha).1
                        obtain ⟨u, hu, h5, h6⟩ := hcell j a ha
                        exact ⟨u, (hcl j hj hin).1.trans hu, h5, h6.ext hx.1⟩
                · intro p hp hpo
                  by_cases hpq : p = q
                  · subst hpq; simp
                  · have := hold0 p hpo
                    rw [List.map_append] at hp
                    rcases List.mem_append.1 hp with hp | hp
                    · have := y2 p hp; omega
                    · simp at hp; exact absurd hp hpq
                · intro p hp
                  rw [List.map_append] at hp
                  rcases List.mem_append.1 hp with hp | hp
                  · exact .inr (y2 p hp)
                  · simp at hp; subst hp; exact .inl (by simp)
              · exact hclose.fail.elim
            · exact hback2.fail.elim
          · exact hback2.fail.elim
        | _ => exact hback.fail.elim
    | _ => exact hback.fail.elim
end
end Go.Proofs.YtmihpclfdicfkaaDoor.Ab

namespace Go.Proofs.YtmihpclfdicfkaaDoor.Ab
section
variable {c : Ctx} {g : Gh} {w w' : World} {e : Env} {Sall Fz' : PSet}
theorem out_backArgs (hi : HInv c g e.h w) (hb : Behind g e.h w w' Sall Fz') {Z : PSet} (hz : ∀ b o, g.Fz b o → Z b o) {old : List Nat} {N : Nat} : ∀ (as : List (Mode × A)) (vs : Nat → Value) (r : List C × List Nat × List Nat × List Nat) (T0 V : Nat → PSet) (ocs : List (Option C)) (n0 : Nat) (os : List (Nat × Option O)) (n1 : Nat),
    (∀ n, n ∈ r.2.1 → n ∈ old) → n1 ≤ N → (∀ q, q ∈ old → q < n0 ∨ N ≤ q) → (∀ n, n ∈ r.2.2.2 → ∀ x y, g.F n x y → Z x y) → (r.2.1 ++ r.2.2.1).Nodup → (∀ (m : Nat) p, as[m]? = some p → RA g e.h w p.2 (vs m)) → Out e (closeArgs as) r →
    (∀ (m : Nat) c, r.1[m]? = some c → RC w Z c (vs m) (T0 m)) → (∀ n, n ∈ r.2.1 → ∀ x y, g.F n x y → Sall x y → ∃ m, m < r.1.length ∧ T0 m x y) →
    (∀ (m : Nat) c1, ocs[m]? = some (some c1) → RC w' Fz' c1 (vs m) (V m)) → (∀ m x y, V m x y → Sall x y ∨ w.heap.size ≤ x) → (∀ i j, i ≠ j → ∀ x y, V i x y → ¬ V j x y) → Out e (backArgs n0 as ocs) (os, n1) →
    n0 ≤ n1 ∧ Backed w' (Next g e.h w w' Fz') g.ν (Reg g Sall (fun x y => ∃ m, V m x y) r.2.1) (os.map (·.1)) os old (fun _ _ => True) ∧ ∀ q, q ∈ os.map (·.1) → q ∈ r.2.1 ∨ (n0 ≤ q ∧ q < n1) := by
  intro as
  induction as with
  | nil =>
    intro vs r T0 V ocs n0 os n1 _ _ _ _ _ _ _ _ _ _ _ _ hback
    cases ocs with
    | nil =>
      have := hback.ret
      cases this
      exact ⟨Nat.le_refl _, Backed.empty fun _ _ _ => trivial, fun q hq => by simp at hq⟩
    | cons c1 s => exact hback.fail.elim
  | cons p as ih =>
    intro vs r T0 V ocs n0 os n1 hold hN hold0 hbZ hnd hra hclose hT0 hcov hV1 hV2 hV3 hback
    obtain ⟨m0, a⟩ := p
    cases ocs with
    | nil => exact hback.fail.elim
    | cons oc s =>
      unfold backArgs at hback
      obtain ⟨⟨x1, n2⟩, k1, k2⟩ := Out.bind hback
      simp only at k2
      obtain ⟨⟨x2, n3⟩, k3, k4⟩ := Out.bind k2
      have := k4.ret
      cases this
      unfold closeArgs at hclose
      obtain ⟨⟨c0, l0, g0, b0⟩, h1, h2⟩ := Out.bind hclose
      simp only at h2
      obtain ⟨⟨cs, ls, gs, bs⟩, h3, h4⟩ := Out.bind h2
      simp only at h4
      have := h4.ret
      subst this
      simp only at hbZ hnd hold hcov hT0 ⊢
      have hnd0 : (l0 ++ g0).Nodup := by
        have : (l0 ++ g0).Sublist (l0 ++ ls ++ (g0 ++ gs)) := List.Sublist.append (List.sublist_append_left _ _) (List.sublist_append_left _ _)
        exact hnd.sublist this
      have hnds : (ls ++ gs).Nodup := by
        have : (ls ++ gs).Sublist (l0 ++ ls ++ (g0 ++ gs)) := List.Sublist.append (List.sublist_append_right _ _) (List.sublist_append_right _ _)
        exact hnd.sublist this
      have hap : ∀ n, n ∈ l0 ++ g0 → n ∉ ls ++ gs := by
        intro n hn hn'
        rw [List.nodup_append, List.nodup_append, List.nodup_append] at hnd
        obtain ⟨⟨a1, a2, a3⟩, ⟨a4, a5, a6⟩, a7⟩ := hnd
        rcases List.mem_append.1 hn with h5 | h5
        · rcases List.mem_append.1 hn' with h6 | h6
          · exact a3 n h5 n h6 rfl
          · exact a7 n (by simp [h5]) n (by simp [h6]) rfl
        · rcases List.mem_append.1 hn' with h6 | h6
          · exact a7 n (by simp [h6]) n (by simp [h5]) rfl
          · exact a6 n h5 n h6 rfl
      obtain ⟨⟨⟨S0, q1, q2⟩, q3⟩, q4⟩ := out_closeArg hi (hra 0 _ rfl) h1 hz (fun n hn => hbZ n (by simp [hn])) hnd0
      obtain ⟨i1, i2, i3, T, i4, i5, i6⟩ := out_closeArgs hi as (fun m => vs (m + 1)) _ (fun m a' hm => hra (m + 1) a' (by simpa using hm)) h3 hz (fun n hn => hbZ n (by simp [hn])) hnds
      simp only at q1 q2 q3 q4 i1 i2 i3 i4 i5 i6
      have u0 : ∀ x y, T0 0 x y → ∃ n, n ∈ l0 ++ g0 ∧ g.F n x y := fun x y h => q2 x y (RC.uniq (hT0 0 c0 rfl) q1 x y h)
      have us : ∀ m, m < cs.length → ∀ x y, T0 (m + 1) x y → ∃ n, n ∈ ls ++ gs ∧ g.F n x y := by
        intro m hm x y h
        have hcm := List.getElem?_eq_getElem hm
        exact i5 m hm x y (RC.uniq (hT0 (m + 1) _ (by simp)) (i4 m _ hcm) x y h)
      have hdis : ∀ n1 n2 x y, n1 ∈ l0 ++ g0 → n2 ∈ ls ++ gs → g.F n1 x y → g.F n2 x y → False := by
        intro n1 n2 x y a1 a2 b1 b2
        obtain ⟨o1, p1⟩ := q3 n1 a1
        obtain ⟨o2, p2⟩ := i2 n2 a2
        exact hi.disj n1 n2 o1 o2 p1 p2 (fun e => hap n1 a1 (e ▸ a2)) x y b1 b2
      have hle3 : n2 ≤ n3 := by
        clear ih
        have : ∀ (as : List (Mode × A)) (s : List (Option C)) (n2 : Nat) (r : List (Nat × Option O) × Nat), Out e (backArgs n2 as s) r → n2 ≤ r.2 := by
          intro as
          induction as with
          | nil =>
            intro s n2 r h
            cases s with
            | nil => rw [h.ret]; exact Nat.le_refl _
            | cons => exact h.fail.elim
          | cons p as ih =>
            intro s n2 r h
            obtain ⟨m, a⟩ := p
            cases s with
            | nil => exact h.fail.elim
            | cons oc s =>
              unfold backArgs at h
              obtain ⟨⟨x1, n3⟩, h1, h2⟩ := Out.bind h
              simp only at h2
              obtain ⟨⟨x2, n4⟩, h3, h4⟩ := Out.bind h2
              rw [h4.ret]
              have h5 := ih s n3 _ h3
              have h6 : n2 ≤ n3 := by
                unfold backArg at h1
                cases m with
                | borrow => cases oc with
                  | none => have := h1.ret; cases this; exact Nat.le_refl _
                  | some => exact h1.fail.elim
                | give => cases oc with
                  | none => have := h1.ret; cases this; exact Nat.le_refl _
                  | some => exact h1.fail.elim
                | nil => cases oc with
                  | none => have := h1.ret; cases this; exact Nat.le_refl _
                  | some => exact h1.fail.elim
                | lend => cases oc with
                  | none => exact h1.fail.elim
                  | some => obtain ⟨_, _, h7⟩ := Out.bind h1; have := h7.ret; cases this; exact Nat.le_refl _
                | box len =>
                  cases a with
                  | ptr q off =>
                    cases oc with
                    | none => exact h1.fail.elim
                    | some c1 =>
                      cases c1 with
                      | box cs =>
                        simp only at h1
                        unfold backBox at h1
                        obtain ⟨o, _, h7⟩ := h1.rh
                        split at h7
                        · split at h7
                          · have := h7.ret
                            cases this
                            have mono : ∀ (c : C) (n : Nat), n ≤ (openC n c).2.2 := by
                              intro c
                              exact C.rec (motive_1 := fun c => ∀ n, n ≤ (openC n c).2.2) (motive_2 := fun cs => ∀ n, n ≤ (openC.openL n cs).2.2) (fun x n => Nat.le_refl _) (fun k sz rows n => Nat.le_succ _) (fun k sz n => Nat.le_refl _)
                                (fun cells ih n => Nat.le_trans (Nat.le_succ n) (ih (n + 1))) (fun row n => Nat.le_refl _) (fun cells ih n => ih n) (fun cells ih n => ih n) (fun n => Nat.le_refl _)
                                (fun c cs h1 h2 n => Nat.le_trans (h1 n) (h2 _)) c
                            have monoL : ∀ (cs : List C) (n : Nat), n ≤ (openC.openL n cs).2.2 := by
                              intro cs
                              induction cs with
                              | nil => intro n; exact Nat.le_refl _
                              | cons c cs ih => intro n; exact Nat.le_trans (mono c n) (ih _)
                            exact monoL cs n2
                          · exact h7.fail.elim
                        · exact h7.fail.elim
                      | _ => exact h1.fail.elim
                  | _ => exact h1.fail.elim
              simp only at h5 ⊢
              omega
        exact this as s n2 _ k3
      obtain ⟨r0, r1, r2⟩ := out_backArg hi hb hz (old := old) (N := N) (S0 := T0 0) (V := V 0) (r := (c0, l0, g0, b0)) (fun n hn => hold n (by simp [hn])) (by omega) hold0 (fun n hn => hbZ n (by simp [hn])) hnd0 (hra 0 _ rfl) h1 (hT0 0 c0 rfl) (fun n hn x y h h' => by
        obtain ⟨m, hm, hT⟩ := hcov n (by simp [hn]) x y h h'
        cases m with
        | zero => exact hT
        | succ m =>
          obtain ⟨n2, a2, b2⟩ := us m (by simpa using hm) x y hT
          exact (hdis n n2 x y (List.mem_append.2 (.inl hn)) a2 h b2).elim) (fun c1 hc1 => hV1 0 c1 (by simp [hc1])) (fun x y h => hV2 0 x y h) k1
      obtain ⟨t0, t1, t2⟩ := ih (fun m => vs (m + 1)) (cs, ls, gs, bs) (fun m => T0 (m + 1)) (fun m => V (m + 1)) s n2 x2 n3 (fun n hn => hold n (by simp [hn])) hN (fun q hq => (hold0 q hq).imp (fun h => by omega) id) (fun n hn => hbZ n (by simp [hn])) hnds (fun m a' hm => hra (m + 1) a' (by simpa using hm)) h3
        (fun m c' hm => hT0 (m + 1) c' (by simpa using hm)) (fun n hn x y h h' => by
          obtain ⟨m, hm, hT⟩ := hcov n (by simp [hn]) x y h h'
          cases m with
          | zero =>
            obtain ⟨n2, a2, b2⟩ := u0 x y hT
            exact (hdis n2 n x y a2 (List.mem_append.2 (.inl hn)) b2 h).elim
          | succ m => exact ⟨m, by simpa using hm, hT⟩) (fun m c' hm => hV1 (m + 1) c' (by simpa using hm)) (fun m x y h => hV2 (m + 1) x y h) (fun i j hij => hV3 (i + 1) (j + 1) (by omega)) k3
      simp only at r1 r2 t1 t2
      refine ⟨by omega, ?_, ?_⟩
      · rw [List.map_append]
        refine r1.append t1 (fun q hq hq' => ?_) ?_ ?_ ?_ (fun _ _ _ _ => trivial)
        · have hlo : ∀ q, q ∈ l0 ∨ q ∈ ls → q < n0 ∨ N ≤ q := fun q hq => hold0 q (hold q (by simpa using hq))
          rcases r2 q hq with h5 | h5
          · rcases t2 q hq' with h6 | h6
            · exact hap q (List.mem_append.2 (.inl h5)) (List.mem_append.2 (.inl h6))
            · have := hlo q (.inl h5); omega
          · rcases t2 q hq' with h6 | h6
            · have := hlo q (.inr h6); omega
            · omega
        · rintro x y (h5 | ⟨n, hn, h5, h6⟩) (⟨m, h7⟩ | ⟨n', hn', h7, h8⟩)
          · exact hV3 0 (m + 1) (by omega) x y h5 h7
          · rcases hV2 0 x y h5 with h9 | h9
            · exact h8 h9
            · obtain ⟨o2, p2⟩ := i2 n' (List.mem_append.2 (.inl hn'))
              have := hi.lt n' o2 p2 x y h7; omega
          · rcases hV2 (m + 1) x y h7 with h9 | h9
            · exact h6 h9
            · obtain ⟨o2, p2⟩ := q3 n (List.mem_append.2 (.inl hn))
              have := hi.lt n o2 p2 x y h5; omega
          · exact hdis n n' x y (List.mem_append.2 (.inl hn)) (List.mem_append.2 (.inl hn')) h5 h7
        · rintro x y (h5 | ⟨n, hn, h5, h6⟩)
          · exact .inl ⟨0, h5⟩
          · exact .inr ⟨n, by simp [hn], h5, h6⟩
        · rintro x y (⟨m, h5⟩ | ⟨n, hn, h5, h6⟩)
          · exact .inl ⟨m + 1, h5⟩
          · exact .inr ⟨n, by simp [hn], h5, h6⟩
      · intro q hq
        rw [List.map_append] at hq
        rcases List.mem_append.1 hq with h5 | h5
        · rcases r2 q h5 with h6 | h6
          · exact .inl (List.mem_append.2 (.inl h6))
          · exact .inr ⟨h6.1, by omega⟩
        · rcases t2 q h5 with h6 | h6
          · exact .inl (List.mem_append.2 (.inr h6))
          · exact .inr ⟨by omega, h6.2⟩
end
end Go.Proofs.YtmihpclfdicfkaaDoor.Ab

namespace Go.Proofs.YtmihpclfdicfkaaDoor.Ab
def OldOk (h : Nat → Option O) (os : List (Nat × Option O)) (old : List Nat) : Prop :=
  ∀ q ver k sz rows, (q, some (.arr ver k sz rows)) ∈ os → q ∈ old → ∃ ver0 k0 rows0, h q = some (.arr ver0 k0 sz rows0) ∧ ver0 < ver
section
variable {e : Env} {old : List Nat}
theorem OldOk.append {h : Nat → Option O} {os os' : List (Nat × Option O)} (h1 : OldOk h os old) (h2 : OldOk h os' old) : OldOk h (os ++ os') old :=
  fun q ver k sz rows hm ho => (List.mem_append.1 hm).elim (fun hm => h1 q ver k sz rows hm ho) (fun hm => h2 q ver k sz rows hm ho)
theorem OldOk.nil {h : Nat → Option O} : OldOk h [] old := fun q ver k sz rows hm => by simp at hm
theorem backCell_old {a : A} {c : C} {os : List (Nat × Option O)} (hback : Out e (backCell a c) os) : OldOk e.h os old := by
  unfold backCell at hback
  split at hback
  · rename_i n k sz rows
    obtain ⟨o, ho, hback⟩ := hback.rh
    split at hback
    · rename_i ver k0 sz0 rows0
      split at hback
      · rename_i hsz
        subst hsz
        rw [hback.ret]
        intro q ver' k' sz' rows' hm _
        simp at hm
        obtain ⟨rfl, rfl, rfl, rfl, rfl⟩ := hm
        exact ⟨ver, k0, rows0, ho, by omega⟩
      · exact hback.fail.elim
    · exact hback.fail.elim
  · rename_i n ver p k' sz' rows'
    obtain ⟨o, ho, hback⟩ := hback.rh
    split at hback
    · rename_i ver0 k sz rows
      split at hback
      · rw [hback.ret]
        intro q ver' k' sz' rows' hm _
        simp at hm
        obtain ⟨rfl, rfl, rfl, rfl, rfl⟩ := hm
        exact ⟨ver0, _, rows, ho, by omega⟩
      · exact hback.fail.elim
    · exact hback.fail.elim
  · rw [hback.ret]; exact OldOk.nil
  · rw [hback.ret]; exact OldOk.nil
  · exact hback.fail.elim
theorem backCells_old : ∀ (cells : List A) (cs : List C) (os : List (Nat × Option O)), Out e (backCells cells cs) os → OldOk e.h os old := by
  intro cells
  induction cells with
  | nil =>
    intro cs os h
    cases cs with
    | nil => rw [h.ret]; exact OldOk.nil
    | cons => exact h.fail.elim
  | cons a cells ih =>
    intro cs os h
    cases cs with
    | nil => exact h.fail.elim
    | cons c cs =>
      unfold backCells at h
      obtain ⟨x, h1, h2⟩ := Out.bind h
      obtain ⟨y, h3, h4⟩ := Out.bind h2
      rw [h4.ret]
      exact (backCell_old h1).append (ih cs y h3)
theorem openC_key (c : C) : ∀ n, n ≤ (openC n c).2.2 ∧ ∀ q o, (q, o) ∈ (openC n c).2.1 → n ≤ q ∧ q < (openC n c).2.2 := by
  exact C.rec (motive_1 := fun c => ∀ n, n ≤ (openC n c).2.2 ∧ ∀ q o, (q, o) ∈ (openC n c).2.1 → n ≤ q ∧ q < (openC n c).2.2)
    (motive_2 := fun cs => ∀ n, n ≤ (openC.openL n cs).2.2 ∧ ∀ q o, (q, o) ∈ (openC.openL n cs).2.1 → n ≤ q ∧ q < (openC.openL n cs).2.2)
    (fun x n => ⟨Nat.le_refl _, fun q o h => by simp [openC] at h⟩)
    (fun k sz rows n => ⟨Nat.le_succ _, fun q o h => by simp [openC] at h; obtain ⟨rfl, _⟩ := h; simp [openC]⟩)
    (fun k sz n => ⟨Nat.le_refl _, fun q o h => by simp [openC] at h⟩)
    (fun cells ih n => by
      obtain ⟨h1, h2⟩ := ih (n + 1)
      show n ≤ (openC.openL (n + 1) cells).2.2 ∧ ∀ q o, (q, o) ∈ (openC.openL (n + 1) cells).2.1 ++ [(n, some (.box (openC.openL (n + 1) cells).1))] → n ≤ q ∧ q < (openC.openL (n + 1) cells).2.2
      refine ⟨by omega, fun q o h => ?_⟩
      rcases List.mem_append.1 h with h | h
      · have := h2 q o h; omega
      · simp at h; omega)
    (fun row n => ⟨Nat.le_refl _, fun q o h => by simp [openC] at h⟩) (fun cells ih n => ih n) (fun cells ih n => ih n)
    (fun n => ⟨Nat.le_refl _, fun q o h => by simp [openC.openL] at h⟩)
    (fun c cs h1 h2 n => by
      obtain ⟨a1, a2⟩ := h1 n
      obtain ⟨b1, b2⟩ := h2 (openC n c).2.2
      show n ≤ (openC.openL (openC n c).2.2 cs).2.2 ∧ ∀ q o, (q, o) ∈ (openC n c).2.1 ++ (openC.openL (openC n c).2.2 cs).2.1 → n ≤ q ∧ q < (openC.openL (openC n c).2.2 cs).2.2
      refine ⟨by omega, fun q o h => ?_⟩
      rcases List.mem_append.1 h with h | h
      · have := a2 q o h; omega
      · have := b2 q o h; omega) c
theorem openL_key : ∀ (cs : List C) (n : Nat), n ≤ (openC.openL n cs).2.2 ∧ ∀ q o, (q, o) ∈ (openC.openL n cs).2.1 → n ≤ q ∧ q < (openC.openL n cs).2.2 := by
  intro cs
  induction cs with
  | nil => intro n; exact ⟨Nat.le_refl _, fun q o h => by simp [openC.openL] at h⟩
  | cons c cs ih =>
    intro n
    obtain ⟨a1, a2⟩ := openC_key c n
    obtain ⟨b1, b2⟩ := ih (openC n c).2.2
    show n ≤ (openC.openL (openC n c).2.2 cs).2.2 ∧ ∀ q o, (q, o) ∈ (openC n c).2.1 ++ (openC.openL (openC n c).2.2 cs).2.1 → n ≤ q ∧ q < (openC.openL (openC n c).2.2 cs).2.2
    refine ⟨by omega, fun q o h => ?_⟩
    rcases List.mem_append.1 h with h | h
    · have := a2 q o h; omega
    · have := b2 q o h; omega
theorem backArg_old {N n0 n1 : Nat} {m : Mode} {a : A} {oc : Option C} {os : List (Nat × Option O)} (hN : n1 ≤ N) (hold0 : ∀ q, q ∈ old → q < n0 ∨ N ≤ q) (h : Out e (backArg n0 m a oc) (os, n1)) : n0 ≤ n1 ∧ OldOk e.h os old := by
  unfold backArg at h
  cases m with
  | borrow => cases oc with
    | none => have := h.ret; cases this; exact ⟨Nat.le_refl _, OldOk.nil⟩
    | some => exact h.fail.elim
  | give => cases oc with
    | none => have := h.ret; cases this; exact ⟨Nat.le_refl _, OldOk.nil⟩
    | some => exact h.fail.elim
  | nil => cases oc with
    | none => have := h.ret; cases this; exact ⟨Nat.le_refl _, OldOk.nil⟩
    | some => exact h.fail.elim
  | lend => cases oc with
    | none => exact h.fail.elim
    | some c1 =>
      obtain ⟨x, h1, h2⟩ := Out.bind h
      have := h2.ret
      cases this
      refine ⟨Nat.le_refl _, ?_⟩
      unfold backLend at h1
      cases a with
      | agg cells =>
        simp only at h1
        cases c1 with
        | agg cs => exact backCells_old cells cs _ h1
        | _ => exact h1.fail.elim
      | _ => exact backCell_old h1
  | box len =>
    cases a with
    | ptr q off =>
      cases oc with
      | none => exact h.fail.elim
      | some c1 =>
        cases c1 with
        | box cs =>
          simp only at h
          unfold backBox at h
          obtain ⟨o, _, h7⟩ := h.rh
          split at h7
          · split at h7
            · have := h7.ret
              cases this
              obtain ⟨k1, k2⟩ := openL_key cs n0
              refine ⟨k1, OldOk.append ?_ ?_⟩
              · intro q' ver k sz rows hm ho
                have := k2 _ _ hm
                have := hold0 q' ho
                omega
              · intro q' ver k sz rows hm ho
                simp at hm
            · exact h7.fail.elim
          · exact h7.fail.elim
        | _ => exact h.fail.elim
    | _ => exact h.fail.elim
theorem backArgs_old {N : Nat} : ∀ (as : List (Mode × A)) (ocs : List (Option C)) (n0 n1 : Nat) (os : List (Nat × Option O)), n1 ≤ N → (∀ q, q ∈ old → q < n0 ∨ N ≤ q) → Out e (backArgs n0 as ocs) (os, n1) → n0 ≤ n1 ∧ OldOk e.h os old := by
  intro as
  induction as with
  | nil =>
    intro ocs n0 n1 os _ _ h
    cases ocs with
    | nil => have := h.ret; cases this; exact ⟨Nat.le_refl _, OldOk.nil⟩
    | cons => exact h.fail.elim
  | cons p as ih =>
    intro ocs n0 n1 os hN hold0 h
    obtain ⟨m, a⟩ := p
    cases ocs with
    | nil => exact h.fail.elim
    | cons oc s =>
      unfold backArgs at h
      obtain ⟨⟨x1, n2⟩, h1, h2⟩ := Out.bind h
      simp only at h2
      obtain ⟨⟨x2, n3⟩, h3, h4⟩ := Out.bind h2
      have := h4.ret
      cases this
      have hmono : ∀ N', n2 ≤ N' → n0 ≤ n2 := fun N' hN' => (backArg_old (old := []) (N := N') hN' (fun q hq => by simp at hq) h1).1
      have h02 := hmono n2 (Nat.le_refl _)
      obtain ⟨t1, t2⟩ := ih s n2 n3 x2 hN (fun q hq => (hold0 q hq).imp (fun h => by omega) id) h3
      obtain ⟨s1, s2⟩ := backArg_old (N := N) (by omega) hold0 h1
      exact ⟨by omega, s2.append t2⟩
end
theorem updF_skip : ∀ (os : List (Nat × Option O)) (h : Nat → Option O) (q : Nat), q ∉ os.map (·.1) → updF h os q = h q := by
  intro os
  induction os with
  | nil => intro h q _; rfl
  | cons p os ih =>
    intro h q hq
    obtain ⟨n, o⟩ := p
    simp only [List.map_cons, List.mem_cons, not_or] at hq
    simp only [updF]
    rw [ih _ q hq.2, if_neg hq.1]
theorem updF_hit : ∀ (os : List (Nat × Option O)) (h : Nat → Option O) (q : Nat) (o : Option O), (os.map (·.1)).Nodup → (q, o) ∈ os → updF h os q = o := by
  intro os
  induction os with
  | nil => intro h q o _ hm; simp at hm
  | cons p os ih =>
    intro h q o hnd hm
    obtain ⟨n, o'⟩ := p
    simp only [List.map_cons, List.nodup_cons] at hnd
    simp only [updF]
    rcases List.mem_cons.1 hm with hm | hm
    · cases hm
      rw [updF_skip os _ q hnd.1, if_pos rfl]
    · exact ih _ q o hnd.2 hm
theorem updF_append (os os' : List (Nat × Option O)) : ∀ (h : Nat → Option O), updF h (os ++ os') = updF (updF h os) os' := by
  induction os with
  | nil => intro h; rfl
  | cons p os ih => intro h; funext q; simp only [List.cons_append, updF]; rw [ih]
theorem updF_gone : ∀ (ns : List Nat) (h : Nat → Option O) (q : Nat), updF h (ns.map fun q => (q, none)) q = if q ∈ ns then none else h q := by
  intro ns
  induction ns with
  | nil => intro h q; simp [updF]
  | cons n ns ih =>
    intro h q
    simp only [List.map_cons, updF]
    rw [ih]
    by_cases h1 : q ∈ ns
    · simp [h1]
    · by_cases h2 : q = n
      · simp [h2]
      · simp [h1, h2]
theorem IndOs.get : ∀ {os : List (Option C)}, IndOs os → ∀ (m : Nat) c, os[m]? = some (some c) → IndC c := by
  intro os
  induction os with
  | nil => intro _ m c h; simp at h
  | cons o os ih =>
    intro h m c hm
    cases m with
    | zero => simp at hm; subst hm; unfold IndOs at h; exact h.1
    | succ m =>
      cases o with
      | none => unfold IndOs at h; exact ih h m c (by simpa using hm)
      | some => unfold IndOs at h; exact ih h.2 m c (by simpa using hm)
end Go.Proofs.YtmihpclfdicfkaaDoor.Ab

namespace Go.Proofs.YtmihpclfdicfkaaDoor.Ab
section
variable {P : Program} {c : Ctx} {g : Gh} {w : World} {base : Nat} {e : Env}
theorem op_call (hi : HInv c g e.h w) (hV : ∀ f cs r os, e.V f cs r os → Valid P c.gv f cs r os) (hf : ∀ n, base ≤ n → n < base + 64 → ¬ g.Nm n) {f : A} {as : List A} {modes : List Mode} {vf : Value} {args : Array Value} {wr : Wr}
    (hfa : RA g e.h w f vf) (hl : args.size = as.length) (hra : ∀ (m : Nat) a, as[m]? = some a → RA g e.h w a (args.getD m Go.undef)) (h : Out e (callA base f as modes) wr) :
    ∃ fid capv, vf = .func (.func fid) #[] capv ∧ Goes P fid ∧ Calls P fid (args ++ capv) w fun en w' => ∃ v g', en = .returned v ∧ HInv c g' (updF e.h wr.objs) w' ∧ Ext g g' e.h (updF e.h wr.objs) w w' ∧ RA g' (updF e.h wr.objs) w' wr.val v ∧
      ∀ n, g'.Nm n → g.Nm n ∨ (base ≤ n ∧ n < base + 64) := by
  unfold callA at h
  split at h
  · rename_i fid caps
    obtain ⟨⟨cs, l, gv, b⟩, h1, h2⟩ := Out.bind h
    simp only at h2
    split at h2
    · rename_i hcond
      obtain ⟨hml, hnd, hap⟩ := hcond
      obtain ⟨r, os, hv, h3⟩ := h2.call
      unfold doneA at h3
      obtain ⟨hind, h3⟩ := h3.need
      obtain ⟨⟨os2, n2⟩, h4, h5⟩ := Out.bind h3
      simp only at h5
      split at h5
      · rename_i hn2
        rw [h5.ret]
        cases hfa with | d _ _ hsf => ?_
        cases hsf with | fn _ _ capv bs offs cvs hcl hcb hcc hcs => ?_
        obtain ⟨hgoes, hcontract⟩ := hV _ _ _ _ hv
        refine ⟨fid, capv, rfl, hgoes, ?_⟩
        have hnd' := nodup_of_B hnd
        have hap' := apart_of_B hap
        have hzip : ∀ (m : Nat) p, (modes.zip as)[m]? = some p → as[m]? = some p.2 := by
          intro m p hp
          have := (List.getElem?_zip_eq_some.1 hp).2
          exact this
        have hzl : (modes.zip as).length = as.length := by simp [List.length_zip, hml]
        let Z : PSet := fun x y => g.Fz x y ∨ ∃ n, n ∈ b ∧ g.F n x y
        obtain ⟨i1, i2, i3, T, i4, i5, i6⟩ := out_closeArgs (Z := Z) hi (modes.zip as) (fun m => args.getD m Go.undef) (cs, l, gv, b) (fun m p hp => hra m p.2 (hzip m p hp)) h1 (fun x y h => .inl h) (fun n hn x y hF => .inr ⟨n, hn, hF⟩) hnd'
        simp only at i1 i2 i3 i4 i5
        have hcsl : cs.length = args.size := by omega
        let U : Nat → PSet := fun m => if m < cs.length then T m else fun _ _ => False
        have hUlt : ∀ m x y, U m x y → m < cs.length ∧ ∃ n, n ∈ l ++ gv ∧ g.F n x y := by
          intro m x y h
          simp only [U] at h
          split at h
          · rename_i hm; exact ⟨hm, i5 m hm x y h⟩
          · exact h.elim
        have hZlt : ∀ x y, Z x y → x < w.heap.size := by
          rintro x y (h | ⟨n, hn, hF⟩)
          · exact hi.fzlt x y h
          · obtain ⟨ob, hob⟩ := i3 n hn
            exact hi.lt n ob hob x y hF
        have hUZ : ∀ m x y, U m x y → ¬ Z x y := by
          intro m x y h hz
          obtain ⟨_, n, hn, hF⟩ := hUlt m x y h
          obtain ⟨ob, hob⟩ := i2 n hn
          rcases hz with hz | ⟨n', hn', hF'⟩
          · exact (hi.mine n ob hob x y hF).2 hz
          · obtain ⟨ob', hob'⟩ := i3 n' hn'
            exact hi.disj n n' ob ob' hob hob' (fun e => hap' n hn (e ▸ hn')) x y hF hF'
        have hUd : ∀ i j, i ≠ j → ∀ x y, U i x y → ¬ U j x y := by
          intro i j hij x y h h'
          obtain ⟨hi', _⟩ := hUlt i x y h
          obtain ⟨hj', _⟩ := hUlt j x y h'
          simp only [U, if_pos hi', if_pos hj'] at h h'
          exact i6 i j hi' hj' hij x y h h'
        have hRCs : RCs w Z (cs ++ caps.map .rp) (args ++ capv) U := by
          refine ⟨by simp [hcsl, hcl], fun m c' hm => ?_, fun i j _ _ hij => hUd i j hij⟩
          by_cases hmc : m < cs.length
          · rw [List.getElem?_append_left hmc] at hm
            have e1 : (args ++ capv).getD m Go.undef = args.getD m Go.undef := by
              simp [Array.getD_eq_getD_getElem?, Array.getElem?_append, (by omega : m < args.size)]
            rw [e1]
            simp only [U, if_pos hmc]
            exact i4 m c' hm
          · rw [List.getElem?_append_right (by omega)] at hm
            simp only [List.getElem?_map] at hm
            cases hcap : caps[m - cs.length]? with
            | none => simp [hcap] at hm
            | some row =>
              simp only [hcap, Option.map_some, Option.some.injEq] at hm
              subst hm
              have hcv := hcb _ row hcap
              have e1 : (args ++ capv).getD m Go.undef = .pointer (some (at_ (bs (m - cs.length)) (offs (m - cs.length)))) := by
                simp [Array.getD_eq_getD_getElem?, Array.getElem?_append]
                rw [← hcsl, hcv]; simp [hmc]
              rw [e1]
              simp only [U, if_neg hmc]
              exact .rp row _ _ (cvs (m - cs.length)) _ (fun k d hk => by
                obtain ⟨q1, q2⟩ := hcc _ row k d hcap hk
                exact ⟨q1, .inl q2⟩) (fun k d hk => (hcs _ row k d hcap hk).mono (fun _ _ _ => rfl) fun _ _ h => .inl h) (fun _ _ h => h)
        refine (hcontract w (args ++ capv) Z U (fun b ob h => ⟨fun o => .inl ((hi.gl b ob h).1 o), (hi.gl b ob h).2⟩) hZlt hRCs (fun i _ x y h => hUZ i x y h)).mono ?_
        rintro en w' ⟨v, Fz', U', rfl, post⟩
        refine ⟨v, ?_⟩
        let Sall : PSet := fun x y => ∃ i, i < (cs ++ caps.map C.rp).length ∧ U i x y
        have hSall : ∀ x y, Sall x y → ∃ n, n ∈ l ++ gv ∧ g.F n x y := by
          rintro x y ⟨i, _, h⟩
          exact (hUlt i x y h).2
        have hSlt : ∀ x y, Sall x y → ∃ m, m < cs.length ∧ T m x y := by
          rintro x y ⟨i, _, h⟩
          obtain ⟨hi', _⟩ := hUlt i x y h
          simp only [U, if_pos hi'] at h
          exact ⟨i, hi', h⟩
        have hgS : ∀ x y, g.Fz x y → ¬ Sall x y := by
          rintro x y hz ⟨i, _, h⟩
          exact hUZ i x y h (.inl hz)
        obtain ⟨FzN, z1, z2, z3, z4, z5⟩ : ∃ FzN : PSet, (∀ x y, g.Fz x y → FzN x y) ∧ (∀ x y, FzN x y → g.Fz x y ∨ Sall x y ∨ (w.heap.size ≤ x ∧ x < w'.heap.size)) ∧ RC w' FzN r v (U' 0) ∧
            (∀ (m : Nat) c1, os[m]? = some (some c1) → RC w' FzN c1 ((args ++ capv).getD m Go.undef) (U' (m + 1))) ∧ ∀ i x y, U' i x y → ¬ FzN x y := by
          by_cases hb : b = []
          · subst hb
            refine ⟨Fz', fun x y h => post.fz x y (.inl h), fun x y h => ?_, post.res, post.outs, fun i x y h => (post.mine i x y h).2.1⟩
            rcases post.fzof x y h with h6 | h6 | h6
            · rcases h6 with h6 | ⟨n, hn, _⟩
              · exact .inl h6
              · simp at hn
            · exact .inr (.inl h6)
            · exact .inr (.inr ⟨h6, post.fzlt x y h⟩)
          · obtain ⟨d1, d2⟩ := hind hb
            exact ⟨g.Fz, fun x y h => h, fun x y h => .inl h, post.res.ind d1, fun m c1 hm => (post.outs m c1 hm).ind (d2.get m c1 hm), fun i x y h hz => (post.mine i x y h).2.1 (post.fz x y (.inl hz))⟩
        have hbeh : Behind g e.h w w' Sall FzN := ⟨post.cell, z1, hgS⟩
        have hold0 : ∀ q, q ∈ l → q < base ∨ base + 64 ≤ q := by
          intro q hq
          obtain ⟨ob, hob⟩ := i2 q (List.mem_append.2 (.inl hq))
          have := hi.nm q ob hob
          by_cases hc : base ≤ q ∧ q < base + 64
          · exact absurd this (hf q hc.1 hc.2)
          · omega
        obtain ⟨k1, k2⟩ := openC_key r base
        obtain ⟨hle, hOld⟩ := backArgs_old (old := l) (N := base + 64) (modes.zip as) os _ n2 os2 hn2 (fun q hq => (hold0 q hq).imp (fun h => by omega) id) h4
        obtain ⟨p1, p2⟩ := Backed.of_opened (X := Next g e.h w w' FzN) (νo := g.ν) (old := l) (openC_ok z3 base) (fun _ _ hx => hx.2) (fun q hq => (hold0 q hq).imp id fun h => by omega)
        have hargs : ∀ m, m < as.length → (args ++ capv).getD m Go.undef = args.getD m Go.undef := by
          intro m hm
          simp [Array.getD_eq_getD_getElem?, Array.getElem?_append, (by omega : m < args.size)]
        have hosl : os.length = as.length := by
          have : ∀ (as : List (Mode × A)) (ocs : List (Option C)) (n0 : Nat) (q : List (Nat × Option O) × Nat), Out e (backArgs n0 as ocs) q → ocs.length = as.length := by
            intro as
            induction as with
            | nil => intro ocs n0 q h; cases ocs with
              | nil => rfl
              | cons => exact h.fail.elim
            | cons p as ih => intro ocs n0 q h; cases ocs with
              | nil => exact h.fail.elim
              | cons oc s =>
                obtain ⟨m, a⟩ := p
                unfold backArgs at h
                obtain ⟨⟨x1, n2⟩, h1, h2⟩ := Out.bind h
                simp only at h2
                obtain ⟨y, h3, _⟩ := Out.bind h2
                simp [ih s _ y h3]
          rw [this _ _ _ _ h4, hzl]
        obtain ⟨t0, t1, t2⟩ := out_backArgs hi hbeh (Z := Z) (fun x y h => .inl h) (old := l) (N := base + 64) (modes.zip as) (fun m => args.getD m Go.undef) (cs, l, gv, b) T (fun m => U' (m + 1)) os _ os2 n2 (fun n hn => hn) hn2
          (fun q hq => (hold0 q hq).imp (fun h => by omega) id) (fun n hn x y hF => .inr ⟨n, hn, hF⟩) hnd' (fun m p hp => hra m p.2 (hzip m p hp)) h1 i4
          (fun n hn x y hF hs => hSlt x y hs) (fun m c1 hm => by
            have hml' : m < as.length := by have := (List.getElem?_eq_some_iff.1 hm).1; omega
            rw [← hargs m hml']
            exact z4 m c1 hm) (fun m x y h => (post.mine _ x y h).1) (fun i j hij => post.disj (i + 1) (j + 1) (by omega)) h4
        simp only at t1 t2
        have hF0 : ∀ n x y, n ∈ l → g.F n x y → x < w.heap.size := fun n x y hn hF => by
          obtain ⟨ob, hob⟩ := i2 n (List.mem_append.2 (.inl hn))
          exact hi.lt n ob hob x y hF
        have hall : Backed w' (Next g e.h w w' FzN) g.ν (fun x y => U' 0 x y ∨ Reg g Sall (fun x y => ∃ m, U' (m + 1) x y) l x y) (((openC base r).2.1).map (·.1) ++ os2.map (·.1)) ((openC base r).2.1 ++ os2) l (fun g' h' => RA g' h' w' (openC base r).1 v) := by
          refine p1.append t1 (fun q hq hq' => ?_) ?_ (fun x y h => .inl h) (fun x y h => .inr h) (fun _ _ h _ => h)
          · have := p2 q hq
            rcases t2 q hq' with h6 | h6
            · have := hold0 q h6; omega
            · omega
          · rintro x y h6 (⟨m, h7⟩ | ⟨n, hn, h7, h8⟩)
            · exact post.disj 0 (m + 1) (by omega) x y h6 h7
            · rcases (post.mine 0 x y h6).1 with h9 | h9
              · exact h8 h9
              · have := hF0 n x y hn h7; omega
        obtain ⟨νs, Fs, ⟨a2, a3, a4, a5, a6, a7⟩, a8⟩ := hall
        have hkeys : ∀ q, q ∈ ((openC base r).2.1).map (·.1) ++ os2.map (·.1) → q ∈ l ∨ (base ≤ q ∧ q < base + 64) := by
          intro q hq
          rcases List.mem_append.1 hq with hq | hq
          · have := p2 q hq; exact .inr ⟨this.1, by omega⟩
          · rcases t2 q hq with h6 | h6
            · exact .inl h6
            · exact .inr ⟨by omega, by omega⟩
        generalize hK : ((openC base r).2.1).map (·.1) ++ os2.map (·.1) = K at *
        generalize hO : (openC base r).2.1 ++ os2 = osA at *
        have hh1 : ∀ q, q ∉ K → q ∉ l ++ gv → updF e.h ((l ++ gv).map (fun q => (q, none)) ++ osA) q = e.h q := by
          intro q q1 q2
          rw [updF_append, updF_skip osA _ q (by rw [a2]; exact q1), updF_gone, if_neg q2]
        have hh2 : ∀ q, q ∉ K → q ∈ l ++ gv → updF e.h ((l ++ gv).map (fun q => (q, none)) ++ osA) q = none := by
          intro q q1 q2
          rw [updF_append, updF_skip osA _ q (by rw [a2]; exact q1), updF_gone, if_pos q2]
        have hh3 : ∀ q o, (q, o) ∈ osA → updF e.h ((l ++ gv).map (fun q => (q, none)) ++ osA) q = o := by
          intro q o hq
          rw [updF_append, updF_hit osA _ q o (by rw [a2]; exact a4) hq]
        have hin : ∀ q, q ∈ K → ∃ ob, (q, some ob) ∈ osA := by
          intro q hq
          rw [← a2] at hq
          obtain ⟨⟨q', o⟩, h6, rfl⟩ := List.mem_map.1 hq
          obtain ⟨ob, rfl⟩ := a3 q' o h6
          exact ⟨ob, h6⟩
        let g' : Gh := { ν := fun q => if q ∈ K then νs q else g.ν q, F := fun q => if q ∈ K then Fs q else g.F q, Fz := FzN, Nm := fun q => g.Nm q ∨ q ∈ K }
        have hNmK : ∀ q, g.Nm q → q ∈ K → q ∈ l := by
          intro q hq hk
          rcases hkeys q hk with h6 | h6
          · exact h6
          · exact absurd hq (hf q h6.1 h6.2)
        have hTch : ∀ x y, Sall x y → Tch g e.h (fun q => q ∈ K ∨ q ∈ l ++ gv) x y := by
          intro x y hs
          obtain ⟨n, hn, hF⟩ := hSall x y hs
          obtain ⟨ob, hob⟩ := i2 n hn
          exact ⟨n, ob, .inr hn, hob, hF⟩
        have hreg : ∀ q, q ∈ K → ∀ x y, Fs q x y → (Tch g e.h (fun q => q ∈ K ∨ q ∈ l ++ gv) x y ∨ w.heap.size ≤ x) ∧ x < w'.heap.size ∧ ¬ FzN x y := by
          intro q hq x y hF
          have hU' : ∀ i, U' i x y → (Tch g e.h (fun q => q ∈ K ∨ q ∈ l ++ gv) x y ∨ w.heap.size ≤ x) ∧ x < w'.heap.size ∧ ¬ FzN x y := by
            intro i h6
            obtain ⟨m1, m2, m3⟩ := post.mine i x y h6
            exact ⟨m1.imp (hTch x y) id, m3, z5 i x y h6⟩
          rcases a5 q hq x y hF with h6 | ⟨m, h6⟩ | ⟨n, hn, h6, h7⟩
          · exact hU' 0 h6
          · exact hU' (m + 1) h6
          · obtain ⟨ob, hob⟩ := i2 n (List.mem_append.2 (.inl hn))
            have hlt := hi.lt n ob hob x y h6
            refine ⟨.inl ⟨n, ob, .inr (List.mem_append.2 (.inl hn)), hob, h6⟩, Nat.lt_of_lt_of_le hlt post.size, fun hz => ?_⟩
            rcases z2 x y hz with h8 | h8 | h8
            · exact (hi.mine n ob hob x y h6).2 h8
            · exact h7 h8
            · omega
        have hstep := mkStep (g' := g') (h' := updF e.h ((l ++ gv).map (fun q => (q, none)) ++ osA)) (w' := w') hi (fun q => q ∈ K ∨ q ∈ l ++ gv) post.side post.size
          (fun q hq => by
            have q1 : q ∉ K := fun h => hq (.inl h)
            have q2 : q ∉ l ++ gv := fun h => hq (.inr h)
            exact ⟨hh1 q q1 q2, fun _ => by simp [g', q1]⟩) (fun q hq => .inl hq)
          (fun q hq => by
            by_cases hk : q ∈ K
            · simp only [g', if_pos hk]; exact a8 q hk (hNmK q hq hk)
            · simp only [g', if_neg hk])
          (fun x hx hT => post.blk x hx fun o hs => hT o (hTch x o hs)) (fun x y hx hT => post.cell x y hx fun hs => hT (hTch x y hs)) z1
          (fun x y hz => by
            rcases z2 x y hz with h6 | h6 | h6
            · exact .inl h6
            · exact .inr (.inl (hTch x y h6))
            · exact .inr (.inr h6))
          (fun q ver k sz rows hq hnm hh => by
            by_cases hk : q ∈ K
            · have hql := hNmK q hnm hk
              obtain ⟨ob, hob⟩ := hin q hk
              rw [hh3 q _ hob] at hh
              cases hh
              rw [← hO] at hob
              rcases List.mem_append.1 hob with h6 | h6
              · have := k2 _ _ h6
                have := hold0 q hql
                omega
              · exact hOld q ver k sz rows h6 hql
            · rw [hh2 q hk (hq.resolve_left hk)] at hh; cases hh)
          (fun ex q o hq ho => by
            by_cases hk : q ∈ K
            · obtain ⟨ob, hob⟩ := hin q hk
              rw [hh3 q _ hob] at ho
              cases ho
              obtain ⟨_, h7⟩ := a7 g' _ ⟨ex, rfl⟩ (fun p hp => ⟨by simp [g', hp], by simp [g', hp], .inr hp⟩)
              exact ⟨.inr hk, h7 q _ hob⟩
            · rw [hh2 q hk (hq.resolve_left hk)] at ho; cases ho)
          (fun q o hq ho x y hxy => by
            by_cases hk : q ∈ K
            · simp only [g', if_pos hk] at hxy
              exact hreg q hk x y hxy
            · rw [hh2 q hk (hq.resolve_left hk)] at ho; cases ho)
          (fun q q' o o' hq hq' ho ho' hne x y h6 h7 => by
            by_cases hk : q ∈ K
            · by_cases hk' : q' ∈ K
              · simp only [g', if_pos hk] at h6
                simp only [g', if_pos hk'] at h7
                exact a6 q q' hk hk' hne x y h6 h7
              · rw [hh2 q' hk' (hq'.resolve_left hk')] at ho'; cases ho'
            · rw [hh2 q hk (hq.resolve_left hk)] at ho; cases ho)
        refine ⟨g', rfl, hstep.1, hstep.2, ?_, fun n hn => ?_⟩
        · exact (a7 g' _ ⟨hstep.2, rfl⟩ (fun p hp => ⟨by simp [g', hp], by simp [g', hp], .inr hp⟩)).1
        · rcases hn with hn | hn
          · exact .inl hn
          · rcases hkeys n hn with h6 | h6
            · obtain ⟨ob, hob⟩ := i2 n (List.mem_append.2 (.inl h6))
              exact .inl (hi.nm n ob hob)
            · exact .inr h6
      · exact h5.fail.elim
    · exact h2.fail.elim
  · exact h.fail.elim
end
end Go.Proofs.YtmihpclfdicfkaaDoor.Ab
