/-
  A part of a proof about the given program; what is proved is said where each theorem stands.
-/
import Derived.Laws.IdiomStrings
import Derived.Laws.MakeOwn
import Derived.Laws.Tables
import Derived.Great.BuildSlice
import Derived.Test.YtmihpclfdicfkaaDoorFrameA
namespace Go.Proofs.YtmihpclfdicfkaaDoor.Ab
def ZeroOk (zs : Array Value) (zero : List D) : Prop := zs.size = zero.length ∧ ∀ (m : Nat) d, zero[m]? = some d → ∀ w Fz k, Own w Fz k (zs.getD m Go.undef) d (fun _ _ => False)
theorem IsNew.alloc_drew_frz (w : World) (cs : Array Value) (t : TypeId) : IsNew w (w.drew.alloc (.cells cs t (cs.size, cs.size + 1))) cs := by
  have hh : (w.drew.alloc (.cells cs t (cs.size, cs.size + 1))).heap[w.heap.size]? = some (.cells cs t (cs.size, cs.size + 1)) := heap_alloc_new w.drew _
  refine ⟨⟨rfl, rfl⟩, by simp, fun _ hb => heap_alloc_old w.drew _ hb, fun i => ?_, fun i hi => ?_⟩
  · show (match (w.drew.alloc (.cells cs t (cs.size, cs.size + 1))).heap[w.heap.size]? with | some (.cells c _ _) => if (at_ w.heap.size i).spot.isSome then none else c[i]? | _ => none) = cs[i]?
    rw [hh]; rfl
  · exact frz_cells (a := at_ w.heap.size i) hh (.inr (Nat.le_refl _))
theorem flat_replicate (zero : List D) (n m : Nat) : (List.replicate n zero).flatten[m]? = if m < n * zero.length then zero[m % zero.length]? else none := by
  induction n generalizing m with
  | zero => simp
  | succ n ih =>
    simp only [List.replicate_succ, List.flatten_cons]
    by_cases h : m < zero.length
    · rw [List.getElem?_append_left h, Nat.mod_eq_of_lt h, if_pos (by rw [Nat.add_mul]; omega)]
    · rw [List.getElem?_append_right (by omega), ih]
      have e1 : (m - zero.length) % zero.length = m % zero.length := by
        rw [← Nat.mod_eq_sub_mod (by omega)]
      rw [e1, Nat.add_mul]
      by_cases h2 : m < n * zero.length + 1 * zero.length
      · rw [if_pos (by omega), if_pos h2]
      · rw [if_neg (by omega), if_neg h2]
theorem flat_bytes (l : List UInt8) : (bytesD l).flatten = l.map fun b => D.int .u8 b.toNat := by
  unfold bytesD
  induction l with
  | nil => rfl
  | cons b l ih => simp [ih]
section
variable {P : Program} {c : Ctx} {g : Gh} {w : World} {base : Nat} {e : Env}
theorem op_s2b (hi : HInv c g e.h w) (hf : ¬ g.Nm base) {s d el : TypeId} {x : A} {v : Value} {wr : Wr} (hs : P.underlying s = some .string) (hd : P.underlying d = some (.slice el)) (hel : P.underlying el = some (.int .u8))
    (hx : RA g e.h w x v) (h : Out e (s2bA base x) wr) : OpOk P c g e.h w base (convert s d v) wr := by
  unfold s2bA at h
  split at h
  · rename_i l
    rw [hx.str_inv, h.ret]
    have hsz : (⟨l.toArray⟩ : ByteArray).size = l.length := by show l.toArray.size = l.length; simp
    have hrun := run_bytes_of_string (P := P) w s d el ⟨l.toArray⟩ hs hd hel
    rw [hsz] at hrun
    have hge := grownCap_ge w l.length 0 el
    have hflat := flat_bytes l
    have hlen : (bytesD l).length = l.length := by simp [bytesD]
    have hbs : (bytesRow ⟨l.toArray⟩ (grownCap w l.length 0 el)).size = grownCap w l.length 0 el := by simp [bytesRow, hsz]; omega
    have := op_newarr (P := P) (base := base) (r := convert s d (.string ⟨l.toArray⟩)) (k := 0) (sz := 1) (cap := grownCap w l.length 0 el) (rows := bytesD l) (ns := []) (T := fun _ _ _ => False) hi hf
      (IsNew.alloc_drew_frz w (bytesRow ⟨l.toArray⟩ (grownCap w l.length 0 el)) el) (fun n hn => by simp at hn) (by omega) (by omega) (fun row hrow => by simp [bytesD] at hrow; obtain ⟨_, _, rfl⟩ := hrow; rfl)
      (fun m d hm => by
        rw [hflat, List.getElem?_map] at hm
        cases hb : l[m]? with
        | none => simp [hb] at hm
        | some b =>
          simp only [hb, Option.map_some, Option.some.injEq] at hm
          subst hm
          have hmlt := (List.getElem?_eq_some_iff.1 hb).1
          have : (bytesRow ⟨l.toArray⟩ (grownCap w l.length 0 el)).getD m Go.undef = .int .u8 b.toNat := by
            have hbe : l[m] = b := by have := List.getElem?_eq_getElem hmlt; rw [hb] at this; exact (Option.some.inj this).symm
            simp [bytesRow, Array.getD_eq_getD_getElem?, Array.getElem?_append, hmlt, hbe]
          rw [this]
          exact ⟨.int _ _, fun _ _ h => h⟩)
      (fun i j _ _ _ x y hxy => hxy.elim) (fun m _ x y hxy => hxy.elim) (by rw [hlen]; exact hrun)
    simpa using this
  · exact h.fail.elim
theorem op_mkslice (hi : HInv c g e.h w) (hf : ¬ g.Nm base) {t el : TypeId} {inf : TypeInfo} {z : Value} {zero : List D} {k0 : Nat} {kl kc : IntKind} {l cp : Int} {wr : Wr} (ht : P.underlying t = some (.slice el))
    (hinf : P.info? el = some inf) (hz : inf.zero = some z) (hzo : ZeroOk z.cells zero) (hb : 0 < inf.bytes)
    (h : Out e (mkA base k0 inf.size inf.bytes zero l cp) wr) : OpOk P c g e.h w base (Instr.makeSlice t (.int kl l) (.int kc cp)) wr := by
  unfold mkA at h
  obtain ⟨⟨h0, h1, h2⟩, h⟩ := h.need
  split at h
  · rename_i hzs
    rw [h.ret]
    unfold limit at h2
    have hcp : cp ≤ 140737488355328 := by
      have h3 : cp * 1 ≤ cp * (inf.bytes : Int) := Int.mul_le_mul_of_nonneg_left (by omega) (by omega)
      have h4 : cp * (inf.bytes : Int) ≤ ((140737488355328 : Nat) : Int) := h2
      omega
    have h2' : (inf.bytes : Int) * cp ≤ 281474976710656 := by rw [Int.mul_comm]; have h4 : cp * (inf.bytes : Int) ≤ ((140737488355328 : Nat) : Int) := h2; omega
    have hrun := run_make (P := P) w t el inf z ht hinf hz kl kc l cp h0 h1 h2' (by omega)
    have hle : l.toNat ≤ cp.toNat := by omega
    have hszl : (List.replicate l.toNat zero).length = l.toNat := by simp
    have := op_newarr (P := P) (base := base) (r := Instr.makeSlice t (.int kl l) (.int kc cp)) (k := k0) (sz := inf.size) (cap := cp.toNat) (rows := List.replicate l.toNat zero) (ns := []) (T := fun _ _ _ => False) hi hf
      (IsNew.alloc w (madeCells z.cells (cp.toNat * inf.size)) el) (fun n hn => by simp at hn) (by simpa using hle) (by rw [size_madeCells]; omega) (fun row hrow => by rw [List.eq_of_mem_replicate hrow]; exact hzs.2)
      (fun m d hm => by
        rw [flat_replicate zero _ m] at hm
        split at hm
        · rename_i hlt
          have hm2 : m < cp.toNat * inf.size := by
            have : l.toNat * zero.length ≤ cp.toNat * inf.size := by rw [hzs.2]; exact Nat.mul_le_mul_right _ hle
            omega
          have : (madeCells z.cells (cp.toNat * inf.size)).getD m Go.undef = z.cells.getD (m % zero.length) Go.undef := by
            have hmod : m % zero.length < z.cells.size := by rw [hzo.1]; exact Nat.mod_lt _ (by omega)
            simp only [madeCells, Array.getD_eq_getD_getElem?, Array.getElem?_map, Array.getElem?_range]
            simp only [hm2, if_true, Option.map_some, Option.getD_some, hzo.1]
            rw [Array.getElem!_eq_getD, Array.getD_eq_getD_getElem?]
            simp [hmod]
          rw [this]
          exact hzo.2 _ d hm w _ k0
        · cases hm)
      (fun i j _ _ _ x y hxy => hxy.elim) (fun m _ x y hxy => hxy.elim) (by rw [hszl]; exact hrun)
    simpa using this
  · exact h.fail.elim
end
end Go.Proofs.YtmihpclfdicfkaaDoor.Ab

namespace Go.Proofs.YtmihpclfdicfkaaDoor.Ab
def segV (cs : Array Value) (off : Nat) (v : Value) : Array Value := v.cells.zipIdx.foldl (fun cs (c, j) => cs.setIfInBounds (off + j) c) cs
theorem foldl_set (off : Nat) : ∀ (l : List (Value × Nat)) (cs : Array Value), (l.foldl (fun cs (c, j) => cs.setIfInBounds (off + j) c) cs).size = cs.size := by
  intro l
  induction l with
  | nil => intro cs; rfl
  | cons x l ih => intro cs; simp only [List.foldl_cons]; rw [ih]; simp
theorem foldl_get (off : Nat) : ∀ (us : List Value) (k : Nat) (cs : Array Value) (m : Nat), off + k + us.length ≤ cs.size →
    ((us.zipIdx k).foldl (fun cs (c, j) => cs.setIfInBounds (off + j) c) cs).getD m Go.undef = if off + k ≤ m ∧ m < off + k + us.length then us.getD (m - (off + k)) Go.undef else cs.getD m Go.undef := by
  intro us
  induction us with
  | nil => intro k cs m _; simp; intro h1 h2; omega
  | cons u us ih =>
    intro k cs m hle
    simp only [List.length_cons] at hle
    simp only [List.zipIdx_cons, List.foldl_cons]
    rw [ih (k + 1) _ m (by simp; omega)]
    simp only [List.length_cons]
    by_cases h1 : off + (k + 1) ≤ m ∧ m < off + (k + 1) + us.length
    · rw [if_pos h1, if_pos (by omega)]
      have : m - (off + k) = (m - (off + (k + 1))) + 1 := by omega
      rw [this]; simp
    · rw [if_neg h1]
      by_cases h2 : m = off + k
      · subst h2
        rw [if_pos (by omega)]
        simp only [Nat.sub_self, Array.getD_eq_getD_getElem?]
        have : off + k < cs.size := by omega
        simp [this]
      · rw [if_neg (by omega)]
        simp only [Array.getD_eq_getD_getElem?, Array.getElem?_setIfInBounds]
        rw [if_neg (by omega)]
theorem segV_size (cs : Array Value) (off : Nat) (v : Value) : (segV cs off v).size = cs.size := by
  unfold segV
  rw [← Array.foldl_toList, foldl_set]
theorem segV_get (cs : Array Value) (off : Nat) (v : Value) (m : Nat) (h : off + v.cells.size ≤ cs.size) :
    (segV cs off v).getD m Go.undef = if off ≤ m ∧ m < off + v.cells.size then v.cells.getD (m - off) Go.undef else cs.getD m Go.undef := by
  unfold segV
  rw [← Array.foldl_toList, Array.toList_zipIdx]
  have := foldl_get off v.cells.toList 0 cs m (by simpa using h)
  simp only [Nat.add_zero, Array.length_toList] at this
  rw [this]
  simp [Array.getD_eq_getD_getElem?, List.getD_eq_getElem?_getD]
def fillV (cs : Array Value) : List (Nat × Value) → Array Value
  | [] => cs
  | (off, v) :: r => fillV (segV cs off v) r
theorem fill_eq (place : Nat → Option (Nat × Nat)) : ∀ (parts : List (Nat × Value)) (offs : List (Nat × Value)) (cs : Array Value), offs.length = parts.length →
    (∀ (i : Nat) p q, parts[i]? = some p → offs[i]? = some q → place p.1 = some (q.1, p.2.cells.size) ∧ q.2 = p.2 ∧ q.1 + p.2.cells.size ≤ cs.size) →
    Instr.fill place cs parts = some (fillV cs offs) := by
  intro parts
  induction parts with
  | nil => intro offs cs hl _; have : offs = [] := List.length_eq_zero_iff.1 hl; subst this; rfl
  | cons p parts ih =>
    intro offs cs hl h
    cases offs with
    | nil => simp at hl
    | cons q offs =>
      obtain ⟨h1, h2, h3⟩ := h 0 p q rfl rfl
      obtain ⟨i, v⟩ := p
      obtain ⟨off, v'⟩ := q
      simp only at h1 h2 h3
      subst h2
      simp only [Instr.fill, h1]
      rw [if_neg (by simp; omega)]
      rw [ih offs _ (by simpa using hl) (fun j p q hp hq => by
        obtain ⟨g1, g2, g3⟩ := h (j + 1) p q (by simpa using hp) (by simpa using hq)
        refine ⟨g1, g2, ?_⟩
        have := segV_size cs off v'
        unfold segV at this
        rw [this]; exact g3)]
      rfl
theorem one_cells {v : Value} (h : v.oneCell' = true) : v.cells = #[v] := by cases v <;> first | rfl | cases h
section
variable {P : Program} {c : Ctx} {g : Gh} {w : World} {base : Nat} {e : Env}
theorem RA.one {h : Nat → Option O} {a : A} {v : Value} (ha : RA g h w a v) (hc : a.cellB = true) : v.oneCell' = true := by
  cases ha with
  | d _ _ hs => exact hs.one
  | nil => rfl
  | sl _ _ h1 => exact h1
  | sv => rfl
  | inn _ _ _ _ _ h1 => exact h1
  | elt _ _ _ _ _ _ _ h1 => obtain ⟨b, q, rfl⟩ := h1; rfl
  | ptr => rfl
  | rp => rfl
  | agg => cases hc
  | tup => cases hc
  | clo => rfl
  | skip => cases hc
  | undef => cases hc
theorem RA.cells {h : Nat → Option O} {a : A} {v : Value} (ha : RA g h w a v) (hc : ∀ b, b ∈ cellsOf a → (∃ l, a = .agg l) ∨ b.cellB = true) :
    v.cells.size = (cellsOf a).length ∧ ∀ (m : Nat) b, (cellsOf a)[m]? = some b → (v.cells.getD m Go.undef).oneCell' = true ∧ RA g h w b (v.cells.getD m Go.undef) := by
  cases a with
  | agg l =>
    obtain ⟨vs, rfl, hl, h1, h2⟩ := ha.agg_inv
    exact ⟨hl, fun m b hb => ⟨h1 m b hb, h2 m b hb⟩⟩
  | _ =>
    have hb : A.cellB _ = true := (hc _ (by simp only [cellsOf, List.mem_singleton]; rfl)).resolve_left (by rintro ⟨l, hl⟩; cases hl)
    have h1 := ha.one hb
    rw [one_cells h1]
    refine ⟨rfl, fun m b hm => ?_⟩
    simp only [cellsOf] at hm
    cases m with
    | zero => simp at hm; subst hm; exact ⟨h1, ha⟩
    | succ m => simp at hm
theorem out_take_cellB {k : Nat} : ∀ {cells : List A} {r : List D × List Nat}, Out e (takeCells k cells) r → ∀ b, b ∈ cells → b.cellB = true := by
  intro cells
  induction cells with
  | nil => intro r _ b hb; simp at hb
  | cons a cells ih =>
    intro r h b hb
    unfold takeCells at h
    split at h
    · rename_i he; cases he
    · rename_i n q he
      cases he
      rcases List.mem_cons.1 hb with rfl | hb
      · rfl
      · obtain ⟨o, _, h⟩ := h.rh
        split at h
        · split at h
          · obtain ⟨x, h1, _⟩ := Out.bind h
            exact ih h1 b hb
          · exact h.fail.elim
        · exact h.fail.elim
    · rename_i he
      cases he
      rcases List.mem_cons.1 hb with rfl | hb
      · rfl
      · obtain ⟨x, h1, _⟩ := Out.bind h
        exact ih h1 b hb
    · rename_i he
      cases he
      rcases List.mem_cons.1 hb with rfl | hb
      · rfl
      · split at h
        · obtain ⟨x, h1, _⟩ := Out.bind h
          exact ih h1 b hb
        · exact h.fail.elim
    · rename_i he
      cases he
      rcases List.mem_cons.1 hb with rfl | hb
      · rfl
      · obtain ⟨x, h1, _⟩ := Out.bind h
        exact ih h1 b hb
    · exact h.fail.elim
theorem nodup_of_B : ∀ {ns : List Nat}, nodupB ns = true → ns.Nodup := by
  intro ns
  induction ns with
  | nil => intro _; exact List.nodup_nil
  | cons n ns ih =>
    intro h
    simp only [nodupB, Bool.and_eq_true, Bool.not_eq_true', List.contains_eq_mem, decide_eq_false_iff_not] at h
    exact List.nodup_cons.2 ⟨h.1, ih h.2⟩
structure Fam (g : Gh) (h : Nat → Option O) (w : World) (k sz n : Nat) (rows : List (List D)) (cs : Array Value) (ns : List Nat) (T : Nat → PSet) : Prop where
  len : rows.length = n
  row : ∀ r, r ∈ rows → r.length = sz
  size : cs.size = n * sz
  own : ∀ (m : Nat) d, rows.flatten[m]? = some d → Own w (FzP g k ns) k (cs.getD m Go.undef) d (T m)
  disj : ∀ i j, i ≠ j → ∀ x y, T i x y → ¬ T j x y
  sub : ∀ m x y, T m x y → ∃ n, n ∈ ns ∧ g.F n x y
  live : ∀ n, n ∈ ns → ∃ o, h n = some o
theorem flat_set {rows : List (List D)} {sz : Nat} (h : ∀ row, row ∈ rows → row.length = sz) {i : Nat} (hi : i < rows.length) {ds : List D} (hd : ds.length = sz) (m : Nat) :
    (rows.set i ds).flatten[m]? = if i * sz ≤ m ∧ m < i * sz + sz then ds[m - i * sz]? else rows.flatten[m]? := by
  induction rows generalizing i m with
  | nil => simp at hi
  | cons r rs ih =>
    have hr := h r (by simp)
    cases i with
    | zero =>
      simp only [List.set_cons_zero, List.flatten_cons, Nat.zero_mul, Nat.zero_add, Nat.zero_le, true_and, Nat.sub_zero]
      by_cases hm : m < sz
      · rw [if_pos hm, List.getElem?_append_left (by omega)]
      · rw [if_neg hm, List.getElem?_append_right (by omega), List.getElem?_append_right (by omega), hr, hd]
    | succ i =>
      simp only [List.set_cons_succ, List.flatten_cons]
      by_cases hm : m < sz
      · rw [List.getElem?_append_left (by omega), List.getElem?_append_left (by omega), if_neg (by rw [Nat.add_mul]; omega)]
      · rw [List.getElem?_append_right (by omega), List.getElem?_append_right (by omega), ih (fun row hrow => h row (by simp [hrow])) (by simpa using hi)]
        rw [hr]
        by_cases h2 : i * sz ≤ m - sz ∧ m - sz < i * sz + sz
        · rw [if_pos h2, if_pos (by rw [Nat.add_mul]; omega)]
          congr 1
          rw [Nat.add_mul]; omega
        · rw [if_neg h2, if_neg (by rw [Nat.add_mul]; omega)]
theorem Fam.set {h : Nat → Option O} {k sz n : Nat} {rows : List (List D)} {cs : Array Value} {ns ms : List Nat} {T : Nat → PSet} (hi : HInv c g h w) (f : Fam g h w k sz n rows cs ns T) {i : Nat} (hin : i < n) {v : Value} {ds : List D}
    (hv : v.cells.size = sz) (hd : ds.length = sz) (t : Took g h w k sz (fun m => v.cells.getD m Go.undef) ds ms) (hap : ∀ q, q ∈ ms → q ∉ ns) :
    ∃ T', Fam g h w k sz n (rows.set i ds) (segV cs (i * sz) v) (ms ++ ns) T' := by
  obtain ⟨t1, t2, t3, T2, t4, t5, t6⟩ := t
  have hmul : i * sz + sz ≤ n * sz := by
    have : (i + 1) * sz ≤ n * sz := Nat.mul_le_mul_right _ hin
    rw [Nat.add_mul] at this; omega
  have hsz := f.size
  refine ⟨fun m => if i * sz ≤ m ∧ m < i * sz + sz then T2 (m - i * sz) else T m, by simp [f.len], ?_, by rw [segV_size]; exact hsz, ?_, ?_, ?_, ?_⟩
  · intro r hr
    rcases List.mem_or_eq_of_mem_set hr with h1 | rfl
    · exact f.row r h1
    · exact hd
  · intro m d hm
    rw [flat_set f.row (by rw [f.len]; exact hin) hd] at hm
    rw [segV_get _ _ _ _ (by omega), hv]
    by_cases h2 : i * sz ≤ m ∧ m < i * sz + sz
    · rw [if_pos h2] at hm
      rw [if_pos h2, if_pos h2]
      refine Own.mono (fun b o hb => ?_) (Keeps.refl _ _) k (Keeps.refl _ _) (t4 _ d hm)
      rcases hb with hb | ⟨hk0, q, hq, hb⟩
      · exact .inl hb
      · exact .inr ⟨hk0, q, by simp [hq], hb⟩
    · rw [if_neg h2] at hm
      rw [if_neg h2, if_neg h2]
      refine Own.mono (fun b o hb => ?_) (Keeps.refl _ _) k (Keeps.refl _ _) (f.own _ d hm)
      rcases hb with hb | ⟨hk0, q, hq, hb⟩
      · exact .inl hb
      · exact .inr ⟨hk0, q, by simp [hq], hb⟩
  · intro a b hab x y h1 h2
    have key : ∀ p q x y, T2 p x y → T q x y → False := by
      intro p q x y hp hq
      obtain ⟨n1, hn1, hF1⟩ := t5 p x y hp
      obtain ⟨n2, hn2, hF2⟩ := f.sub q x y hq
      obtain ⟨o1, ho1⟩ := t3 n1 hn1
      obtain ⟨o2, ho2⟩ := f.live n2 hn2
      exact hi.disj n1 n2 o1 o2 ho1 ho2 (fun e => hap n1 hn1 (e ▸ hn2)) x y hF1 hF2
    split at h1
    · split at h2
      · exact t6 _ _ (by omega) x y h1 h2
      · exact key _ _ x y h1 h2
    · split at h2
      · exact key _ _ x y h2 h1
      · exact f.disj a b hab x y h1 h2
  · intro m x y hm
    split at hm
    · obtain ⟨q, hq, hF⟩ := t5 _ x y hm
      exact ⟨q, by simp [hq], hF⟩
    · obtain ⟨q, hq, hF⟩ := f.sub _ x y hm
      exact ⟨q, by simp [hq], hF⟩
  · intro q hq
    rcases List.mem_append.1 hq with h1 | h1
    · exact t3 q h1
    · exact f.live q h1
theorem lit_fam (hi : HInv c g e.h w) (k sz n : Nat) : ∀ (as : List (Nat × A)) (vals : List (Nat × Value)) (es : List (Nat × List D)) (ms ns : List Nat) (rows : List (List D)) (cs : Array Value) (T : Nat → PSet),
    vals.length = as.length → (∀ (i : Nat) p q, as[i]? = some p → vals[i]? = some q → q.1 = p.1 ∧ RA g e.h w p.2 q.2) → Out e (litCells k as) (es, ms) →
    (∀ e', e' ∈ es → e'.2.length = sz ∧ e'.1 < n) → (ms ++ ns).Nodup → Fam g e.h w k sz n rows cs ns T →
    ∃ T' ns', Fam g e.h w k sz n (litRows rows es) (fillV cs (vals.map fun q => (q.1 * sz, q.2))) ns' T' ∧ (∀ q, q ∈ ns' ↔ q ∈ ms ∨ q ∈ ns) ∧ (∀ q, q ∈ vals → q.2.cells.size = sz ∧ q.1 < n) := by
  intro as
  induction as with
  | nil =>
    intro vals es ms ns rows cs T hl _ h _ _ hf
    have : vals = [] := List.length_eq_zero_iff.1 hl
    subst this
    have := h.ret
    cases this
    exact ⟨T, ns, hf, by simp, by simp⟩
  | cons p as ih =>
    intro vals es ms ns rows cs T hl hra h hes hnd hf
    cases vals with
    | nil => simp at hl
    | cons q vals =>
      obtain ⟨i, a⟩ := p
      obtain ⟨i', v⟩ := q
      obtain ⟨h1, h2⟩ := hra 0 _ _ rfl rfl
      simp only at h1 h2
      subst h1
      unfold litCells at h
      obtain ⟨⟨ds, ns1⟩, h3, h4⟩ := Out.bind h
      simp only at h4
      obtain ⟨⟨es', ms'⟩, h5, h6⟩ := Out.bind h4
      have := h6.ret
      cases this
      obtain ⟨hds, hin⟩ := hes (i', ds) (by simp)
      simp only at hds hin
      have hcell := h2.cells (fun b hb => by
        by_cases ha : ∃ l, a = .agg l
        · exact .inl ha
        · exact .inr (out_take_cellB h3 b hb))
      have htook := takeCells_ok hi k (cellsOf a) (fun m => v.cells.getD m Go.undef) ds ns1 (fun m b hb => (hcell.2 m b hb).2) h3
      have hvs : v.cells.size = sz := by rw [hcell.1, ← htook.1]; exact hds
      rw [← hcell.1, hvs] at htook
      have hnd' := hnd
      rw [List.append_assoc, List.nodup_append] at hnd'
      obtain ⟨n1, n2, n3⟩ := hnd'
      obtain ⟨T2, hf2⟩ := hf.set hi hin hvs hds htook (fun q hq hq' => n3 q hq q (by simp [hq']) rfl)
      obtain ⟨T', ns', g1, g2, g3⟩ := ih vals es' ms' (ns1 ++ ns) (rows.set i' ds) (segV cs (i' * sz) v) T2 (by simpa using hl) (fun j p q hp hq => hra (j + 1) p q (by simpa using hp) (by simpa using hq)) h5
        (fun e' he' => hes e' (by simp [he'])) (by
          rw [List.nodup_append] at n2 ⊢
          obtain ⟨a1, a2, a3⟩ := n2
          refine ⟨a1, List.nodup_append.2 ⟨n1, a2, fun x hx y hy => n3 x hx y (by simp [hy])⟩, ?_⟩
          intro x hx y hy
          rcases List.mem_append.1 hy with hy | hy
          · exact fun e => n3 y hy x (by simp [hx]) e.symm
          · exact a3 x hx y hy) hf2
      refine ⟨T', ns', g1, fun q => ?_, ?_⟩
      · rw [g2 q]; simp only [List.mem_append]
        constructor
        · rintro (h | h | h)
          · exact .inl (.inr h)
          · exact .inl (.inl h)
          · exact .inr h
        · rintro ((h | h) | h)
          · exact .inr (.inl h)
          · exact .inl h
          · exact .inr (.inr h)
      · intro q hq
        rcases List.mem_cons.1 hq with rfl | hq
        · exact ⟨hvs, hin⟩
        · exact g3 q hq
end
end Go.Proofs.YtmihpclfdicfkaaDoor.Ab

namespace Go.Proofs.YtmihpclfdicfkaaDoor.Ab
def Places (P : Program) (fs : Array Field) (places : List (Nat × Nat)) : Prop := fs.toList.mapM (fun f => (P.info? f.type).map fun i => (f.offset, i.size)) = some places
theorem buildA_len : ∀ (as : List (Nat × Nat × A)) (cells : List A), (∀ p, p ∈ as → (cellsOf p.2.2).length = p.2.1 ∧ p.1 + p.2.1 ≤ cells.length) → (buildA cells as).length = cells.length := by
  intro as
  induction as with
  | nil => intro cells _; rfl
  | cons p as ih =>
    intro cells h
    obtain ⟨off, n, a⟩ := p
    obtain ⟨h1, h2⟩ := h (off, n, a) (by simp)
    simp only at h1 h2
    have hl : (setCells cells off (cellsOf a)).length = cells.length := by simp [setCells]; omega
    simp only [buildA]
    rw [ih _ (fun q hq => by rw [hl]; exact h q (by simp [hq])), hl]
theorem setCells_get (cells : List A) (off : Nat) (new : List A) (m : Nat) (h : off + new.length ≤ cells.length) :
    (setCells cells off new)[m]? = if off ≤ m ∧ m < off + new.length then new[m - off]? else cells[m]? := by
  unfold setCells
  by_cases h1 : m < off
  · rw [if_neg (by omega), List.append_assoc, List.getElem?_append_left (by simp; omega), List.getElem?_take_of_lt h1]
  · by_cases h2 : m < off + new.length
    · rw [if_pos ⟨by omega, h2⟩, List.append_assoc, List.getElem?_append_right (by simp; omega), List.getElem?_append_left (by simp; omega)]
      congr 1; simp; omega
    · rw [if_neg (by omega), List.append_assoc, List.getElem?_append_right (by simp; omega), List.getElem?_append_right (by simp; omega), List.getElem?_drop]
      congr 1; simp; omega
section
variable {P : Program} {c : Ctx} {g : Gh} {w : World} {base : Nat} {e : Env}
def CellsRA (g : Gh) (h : Nat → Option O) (w : World) (cells : List A) (vs : Array Value) : Prop :=
  vs.size = cells.length ∧ ∀ (m : Nat) a, cells[m]? = some a → (vs.getD m Go.undef).oneCell' = true ∧ RA g h w a (vs.getD m Go.undef)
theorem CellsRA.set {h : Nat → Option O} {cells new : List A} {vs : Array Value} {v : Value} {off : Nat} (hc : CellsRA g h w cells vs) (hle : off + new.length ≤ cells.length) (hv : CellsRA g h w new v.cells) :
    CellsRA g h w (setCells cells off new) (segV vs off v) := by
  refine ⟨by rw [segV_size, hc.1]; simp [setCells]; omega, fun m a ha => ?_⟩
  rw [setCells_get _ _ _ _ hle] at ha
  rw [segV_get _ _ _ _ (by rw [hv.1, hc.1]; exact hle), hv.1]
  by_cases h2 : off ≤ m ∧ m < off + new.length
  · rw [if_pos h2] at ha
    rw [if_pos h2]
    exact hv.2 _ a ha
  · rw [if_neg h2] at ha
    rw [if_neg h2]
    exact hc.2 _ a ha
theorem RA.cells' {h : Nat → Option O} {a : A} {v : Value} (ha : RA g h w a v) (hp : partOk a = true) : CellsRA g h w (cellsOf a) v.cells := by
  have := ha.cells (fun b hb => by
    cases a with
    | agg l => exact .inl ⟨l, rfl⟩
    | _ => simp only [cellsOf, List.mem_singleton] at hb; subst hb; exact .inr hp)
  exact this
theorem build_fam : ∀ (as : List (Nat × Nat × A)) (vals : List (Nat × Value)) (cells : List A) (vs : Array Value), vals.length = as.length →
    (∀ (i : Nat) p q, as[i]? = some p → vals[i]? = some q → q.1 = p.1 ∧ RA g e.h w p.2.2 q.2) → (∀ p, p ∈ as → (cellsOf p.2.2).length = p.2.1 ∧ p.1 + p.2.1 ≤ cells.length ∧ partOk p.2.2 = true) →
    CellsRA g e.h w cells vs → CellsRA g e.h w (buildA cells as) (fillV vs vals) ∧ ∀ (i : Nat) p q, as[i]? = some p → vals[i]? = some q → q.2.cells.size = p.2.1 := by
  intro as
  induction as with
  | nil =>
    intro vals cells vs hl _ _ hc
    have : vals = [] := List.length_eq_zero_iff.1 hl
    subst this
    exact ⟨hc, fun i p q hp => by simp at hp⟩
  | cons p as ih =>
    intro vals cells vs hl hra hok hc
    cases vals with
    | nil => simp at hl
    | cons q vals =>
      obtain ⟨off, n, a⟩ := p
      obtain ⟨off', v⟩ := q
      obtain ⟨h1, h2⟩ := hra 0 _ _ rfl rfl
      simp only at h1 h2
      subst h1
      obtain ⟨h3, h4, h5⟩ := hok (off', n, a) (by simp)
      simp only at h3 h4 h5
      have hv := h2.cells' h5
      have hset := hc.set (off := off') (by omega) hv
      have hlen : (setCells cells off' (cellsOf a)).length = cells.length := by simp [setCells]; omega
      obtain ⟨g1, g2⟩ := ih vals (setCells cells off' (cellsOf a)) (segV vs off' v) (by simpa using hl) (fun j p q hp hq => hra (j + 1) p q (by simpa using hp) (by simpa using hq))
        (fun p hp => by rw [hlen]; exact hok p (by simp [hp])) hset
      refine ⟨g1, fun i p q hp hq => ?_⟩
      cases i with
      | zero => simp at hp hq; subst hp; subst hq; simp only; rw [hv.1, h3]
      | succ i => exact g2 i p q (by simpa using hp) (by simpa using hq)
theorem op_build (hi : HInv c g e.h w) {t : TypeId} {it : TypeInfo} {fs : Array Field} {z : Value} {places : List (Nat × Nat)} {zero : List A} {as : List (Nat × Nat × A)} {parts : List (Nat × Value)} {wr : Wr}
    (ht : P.underlying t = some (.struct fs)) (hit : P.info? t = some it) (hz : it.zero = some z) (hpl : Places P fs places) (hzo : ∀ g h w, CellsRA g h w zero z.cells)
    (hl : parts.length = as.length) (hparts : ∀ (i : Nat) p q, as[i]? = some p → parts[i]? = some q → places[q.1]? = some (p.1, p.2.1) ∧ RA g e.h w p.2.2 q.2)
    (h : Out e (buildOp zero as) wr) :
    OpOk P c g e.h w base (Instr.build t parts.toArray) wr := by
  unfold buildOp at h
  split at h
  · rename_i hall
    rw [out_out h]
    rw [List.all_eq_true] at hall
    have hok : ∀ p, p ∈ as → (cellsOf p.2.2).length = p.2.1 ∧ p.1 + p.2.1 ≤ zero.length ∧ partOk p.2.2 = true := by
      intro p hp
      have := hall p hp
      simp only [Bool.and_eq_true, beq_iff_eq, decide_eq_true_eq] at this
      exact ⟨this.1.1, this.1.2, this.2⟩
    let vals : List (Nat × Value) := (as.zip parts).map fun x => (x.1.1, x.2.2)
    have hvl : vals.length = as.length := by simp [vals, hl]
    have hvg : ∀ (i : Nat) p q, as[i]? = some p → parts[i]? = some q → vals[i]? = some (p.1, q.2) := by
      intro i p q hp hq
      have : (as.zip parts)[i]? = some (p, q) := List.getElem?_zip_eq_some.2 ⟨hp, hq⟩
      simp [vals, this]
    have hfam := build_fam (g := g) (w := w) (e := e) as vals zero z.cells hvl (fun i p q hp hq => by
      have hi' : i < parts.length := by have := (List.getElem?_eq_some_iff.1 hp).1; omega
      have hq' := List.getElem?_eq_getElem hi'
      rw [hvg i p _ hp hq'] at hq
      cases hq
      exact ⟨rfl, (hparts i p _ hp hq').2⟩) hok (hzo _ _ _)
    have hsz := (hzo g e.h w).1
    have hfill := fill_eq (fun i => places.toArray[i]?) parts vals z.cells (by omega) (fun i p q hp hq => by
      have hi' : i < as.length := by have := (List.getElem?_eq_some_iff.1 hp).1; omega
      have ha := List.getElem?_eq_getElem hi'
      have hv := hvg i _ _ ha hp
      rw [hv] at hq
      cases hq
      have hs := hfam.2 i _ _ ha hv
      simp only at hs
      obtain ⟨h1, h2⟩ := hparts i _ _ ha hp
      have h3 := hok _ (List.mem_of_getElem? ha)
      exact ⟨by rw [hs]; simpa using h1, rfl, by rw [hs, hsz]; exact h3.2.1⟩)
    have hbuilt : P.built t parts.toArray.toList = some (fillV z.cells vals) := by
      unfold Program.built
      unfold Places at hpl
      simp only [hit, ht, hz, hpl]
      exact hfill
    refine .quiet hi (run_build w t _ _ hbuilt) (.agg _ _ hfam.1.1 (fun m a ha => (hfam.1.2 m a ha).1) (fun m a ha => (hfam.1.2 m a ha).2))
  · exact h.fail.elim
theorem run_lit {P : Program} (w : World) (t e : TypeId) (len : Nat) (parts : Array (Nat × Value)) (cells : Array Value) (ie : TypeInfo) (z : Value)
    (hu : P.underlying t = some (.slice e)) (hie : P.info? e = some ie) (hz : ie.zero = some z) (hsmall : ¬ len * ie.size > 2 ^ 24)
    (h : Instr.fill (fun i => some (i * ie.size, ie.size)) ((Array.range (len * ie.size)).map (z.cells[· % z.cells.size]!)) parts.toList = some cells) (h0 : len * ie.size = 0 → parts = #[]) :
    (Instr.buildSlice t len parts).run P w = .ok (.slice (some ⟨w.heap.size, 0, none⟩) len len) (w.alloc (.cells cells e)) := by
  by_cases hpos : len * ie.size = 0
  · have hp := h0 hpos
    subst hp
    simp only [hpos, Array.range_zero', List.map_toArray] at h
    simp only [Instr.fill, Option.some.injEq] at h
    have e0 : Array.range 0 = #[] := rfl
    simp [Instr.buildSlice, run_underlying hu, sizeOf, typeInfo, hie, hpos, newRow, Instr.fill, ← h, e0]
  · exact run_buildSlice w t e len parts cells ie z hu hie hz hsmall hpos h
theorem op_lit (hi : HInv c g e.h w) (hf : ¬ g.Nm base) {t el : TypeId} {inf : TypeInfo} {z : Value} {zero : List D} {k0 n : Nat} {as : List (Nat × A)} {parts : List (Nat × Value)} {wr : Wr} (ht : P.underlying t = some (.slice el))
    (hinf : P.info? el = some inf) (hz : inf.zero = some z) (hzo : ZeroOk z.cells zero) (hsmall : n * inf.size ≤ 2 ^ 24)
    (hl : parts.length = as.length) (hparts : ∀ (i : Nat) p q, as[i]? = some p → parts[i]? = some q → q.1 = p.1 ∧ RA g e.h w p.2 q.2)
    (h : Out e (litA base k0 inf.size n zero as) wr) : OpOk P c g e.h w base (Instr.buildSlice t n parts.toArray) wr := by
  unfold litA at h
  simp only at h
  generalize (if as.any (fun x => hasShared (cellsOf x.2)) = true then 0 else k0) = k at h
  obtain ⟨⟨es, ns⟩, h1, h2⟩ := Out.bind h
  simp only at h2
  split at h2
  · rename_i hc
    obtain ⟨c1, c2, c3, c4⟩ := hc
    rw [h2.ret]
    rw [List.all_eq_true] at c2
    have hes : ∀ e', e' ∈ es → e'.2.length = inf.size ∧ e'.1 < n := by
      intro e' he'
      have := c2 e' he'
      simpa using this
    let cs0 : Array Value := (Array.range (n * inf.size)).map (z.cells[· % z.cells.size]!)
    have hzs : z.cells.size = inf.size := by rw [hzo.1, c3]
    have hf0 : Fam g e.h w k inf.size n (List.replicate n zero) cs0 [] (fun _ _ _ => False) := by
      refine ⟨by simp, fun r hr => by rw [List.eq_of_mem_replicate hr]; exact c3, by simp [cs0], ?_, fun _ _ _ _ _ h => h.elim, fun _ _ _ h => h.elim, fun n hn => by simp at hn⟩
      intro m d hm
      rw [flat_replicate] at hm
      split at hm
      · rename_i hlt
        rw [c3] at hlt
        have : cs0.getD m Go.undef = z.cells.getD (m % zero.length) Go.undef := by
          have hmod : m % zero.length < z.cells.size := by rw [hzo.1]; exact Nat.mod_lt _ (by omega)
          simp only [cs0, Array.getD_eq_getD_getElem?, Array.getElem?_map, Array.getElem?_range]
          simp only [hlt, if_true, Option.map_some, Option.getD_some, hzo.1]
          rw [Array.getElem!_eq_getD, Array.getD_eq_getD_getElem?]
          simp [hmod]
        rw [this]
        exact hzo.2 _ d hm w _ k
      · cases hm
    obtain ⟨T', ns', g1, g2, g3⟩ := lit_fam hi k inf.size n as parts es ns [] (List.replicate n zero) cs0 _ hl hparts h1 hes (by simpa using nodup_of_B c1) hf0
    have hfill := fill_eq (fun i => some (i * inf.size, inf.size)) parts (parts.map fun q => (q.1 * inf.size, q.2)) cs0 (by simp) (fun i p q hp hq => by
      rw [List.getElem?_map, hp] at hq
      simp only [Option.map_some, Option.some.injEq] at hq
      subst hq
      obtain ⟨q1, q2⟩ := g3 p (List.mem_of_getElem? hp)
      have hmul : p.1 * inf.size + inf.size ≤ n * inf.size := by
        have : (p.1 + 1) * inf.size ≤ n * inf.size := Nat.mul_le_mul_right _ q2
        rw [Nat.add_mul] at this; omega
      exact ⟨by rw [q1], rfl, by simp only [cs0, Array.size_map, Array.size_range]; rw [q1]; exact hmul⟩)
    have hrun := run_lit (P := P) w t el n parts.toArray _ inf z ht hinf hz (by omega) hfill (fun h0 => by
      have hn0 : n = 0 := by
        rcases Nat.mul_eq_zero.1 h0 with h | h
        · exact h
        · omega
      subst hn0
      cases hp : parts with
      | nil => rfl
      | cons p ps => have := (g3 p (by rw [hp]; simp)).2; omega)
    have := op_newarr (P := P) (base := base) (r := Instr.buildSlice t n parts.toArray) (k := k) (sz := inf.size) (cap := n) (rows := litRows (List.replicate n zero) es) (ns := ns) (T := T') hi hf
      (IsNew.alloc w _ el) (fun q hq => g1.live q ((g2 q).2 (.inl hq))) (Nat.le_of_eq g1.len) (by rw [g1.size]; exact Nat.le_refl _) g1.row
      (fun m d hm => Own.mono (fun b o hb => by
        rcases hb with hb | ⟨hk0, q, hq, hb⟩
        · exact .inl hb
        · exact .inr ⟨hk0, q, by simpa using (g2 q).1 hq, hb⟩) (Keeps.refl _ _) k (Keeps.refl _ _) (g1.own m d hm)) (fun i j _ _ hij => g1.disj i j hij)
      (fun m _ x y hxy => by obtain ⟨q, hq, hF⟩ := g1.sub m x y hxy; exact ⟨q, by simpa using (g2 q).1 hq, hF⟩) (by rw [g1.len]; exact hrun)
    exact this
  · exact h2.fail.elim
theorem op_clo (hi : HInv c g e.h w) {f : FuncId} {as : List A} {vs : Array Value} (hl : vs.size = as.length) (hra : ∀ (m : Nat) a, as[m]? = some a → RA g e.h w a (vs.getD m Go.undef)) :
    OpOk P c g e.h w base (Instr.makeFunc (.func f) #[] vs) { val := .clo f as } :=
  .quiet hi (by simp [Instr.makeFunc]) (.clo f as vs hl hra)
end
end Go.Proofs.YtmihpclfdicfkaaDoor.Ab

namespace Go.Proofs.YtmihpclfdicfkaaDoor.Ab
def setMany (w : World) (b : Nat) : Nat → List Value → World
  | _, [] => w
  | q, v :: r => setMany (w.setCell (at_ b q) v) b (q + 1) r
theorem setMany_size (b : Nat) : ∀ (vs : List Value) (w : World) (q : Nat), (setMany w b q vs).heap.size = w.heap.size := by
  intro vs
  induction vs with
  | nil => intro w q; rfl
  | cons v vs ih => intro w q; simp only [setMany]; rw [ih]; simp
theorem setMany_side (b : Nat) : ∀ (vs : List Value) (w : World) (q : Nat), (setMany w b q vs).os = w.os ∧ (setMany w b q vs).output = w.output := by
  intro vs
  induction vs with
  | nil => intro w q; exact ⟨rfl, rfl⟩
  | cons v vs ih => intro w q; simp only [setMany]; exact ih _ _
theorem setMany_heap (b : Nat) {k : Nat} (hk : k ≠ b) : ∀ (vs : List Value) (w : World) (q : Nat), (setMany w b q vs).heap[k]? = w.heap[k]? := by
  intro vs
  induction vs with
  | nil => intro w q; rfl
  | cons v vs ih => intro w q; simp only [setMany]; rw [ih]; exact heap_setCell_other w _ k v hk
theorem setMany_frozen (b : Nat) (a : Addr) : ∀ (vs : List Value) (w : World) (q : Nat), (setMany w b q vs).frz? a = w.frz? a := by
  intro vs
  induction vs with
  | nil => intro w q; rfl
  | cons v vs ih => intro w q; simp only [setMany]; rw [ih]; simp
theorem setMany_other (b : Nat) {x m : Nat} : ∀ (vs : List Value) (w : World) (q : Nat), ¬ (x = b ∧ q ≤ m ∧ m < q + vs.length) → (setMany w b q vs).cell? (at_ x m) = w.cell? (at_ x m) := by
  intro vs
  induction vs with
  | nil => intro w q _; rfl
  | cons v vs ih =>
    intro w q h
    simp only [List.length_cons] at h
    simp only [setMany]
    rw [ih _ _ (by omega)]
    refine World.cell?_setCell_other w _ _ v ?_
    intro e
    simp only [Addr.mk.injEq, and_true] at e
    omega
theorem setMany_get (b : Nat) : ∀ (vs : List Value) (w : World) (q : Nat), Room w b q vs.length → ∀ (m : Nat) v, vs[m]? = some v → (setMany w b q vs).cell? (at_ b (q + m)) = some v := by
  intro vs
  induction vs with
  | nil => intro w q _ m v h; simp at h
  | cons u vs ih =>
    intro w q hr m v hm
    simp only [setMany]
    obtain ⟨⟨x, hx⟩, _⟩ := hr 0 (by simp)
    have hset := World.cell?_setCell_same w (at_ b q) u hx
    cases m with
    | zero =>
      simp at hm
      subst hm
      rw [Nat.add_zero, setMany_other b vs _ _ (by omega)]
      exact hset
    | succ m =>
      have hr' : Room (w.setCell (at_ b q) u) b (q + 1) vs.length := by
        intro o ho
        obtain ⟨⟨y, hy⟩, hf⟩ := hr (o + 1) (by simp; omega)
        refine ⟨⟨y, ?_⟩, by simpa [Nat.add_assoc, Nat.add_comm 1 o] using hf⟩
        rw [World.cell?_setCell_other w _ _ u (by intro e; simp only [Addr.mk.injEq, and_true] at e; omega)]
        simpa [Nat.add_assoc, Nat.add_comm 1 o] using hy
      have := ih _ _ hr' m v (by simpa using hm)
      rw [show q + (m + 1) = q + 1 + m by omega]
      exact this
theorem run_storeCells (P : Program) (b o : Nat) : ∀ (vs : List Value) (w : World) (i : Nat), Room w b (o + i) vs.length → (∀ v, v ∈ vs → v.oneCell' = true) →
    (storeCells (at_ b o) vs i).run P w = .ok () (setMany w b (o + i) vs) := by
  intro vs
  induction vs with
  | nil => intro w i _ _; rfl
  | cons v vs ih =>
    intro w i hr h1
    obtain ⟨⟨x, hx⟩, hf⟩ := hr 0 (by simp)
    simp only [Nat.add_zero] at hx hf
    have ha : Addr.add (at_ b o) i = at_ b (o + i) := add_at b o i
    simp only [storeCells, Sem.run_bind, ha, run_store P w (at_ b (o + i)) v .plain (h1 v (by simp)), hx, frozen_of hx hf, Bool.false_eq_true, if_false, Result.andThen_ok]
    rw [ih (w.setCell (at_ b (o + i)) v) (i + 1) ?_ (fun u hu => h1 u (by simp [hu]))]
    · rfl
    · intro q hq
      obtain ⟨⟨y, hy⟩, hf⟩ := hr (q + 1) (by simp; omega)
      refine ⟨⟨y, ?_⟩, by simpa [Nat.add_assoc, Nat.add_comm 1 q] using hf⟩
      rw [World.cell?_setCell_other w _ _ v (by intro e; simp only [Addr.mk.injEq, and_true] at e; omega)]
      simpa [Nat.add_assoc, Nat.add_comm 1 q] using hy
theorem Own.congr {w : World} {Fz : PSet} {k : Nat} {v : Value} {d : D} {S S' : PSet} (h : Own w Fz k v d S) (e : ∀ x y, S x y ↔ S' x y) : Own w Fz k v d S' := by
  have : S = S' := by funext x y; exact propext (e x y)
  exact this ▸ h
theorem flat_set2 {rows : List (List D)} {sz i j : Nat} {row : List D} {d0 d : D} (h : ∀ r, r ∈ rows → r.length = sz) (hi : rows[i]? = some row) (hj : row[j]? = some d0) (m : Nat) :
    (rows.set i ((rows.getD i []).set j d)).flatten[m]? = if m = i * sz + j then some d else rows.flatten[m]? := by
  have hlt := (List.getElem?_eq_some_iff.1 hi).1
  have hg : rows.getD i [] = row := by simp [List.getD, hi]
  have hjl := (List.getElem?_eq_some_iff.1 hj).1
  have hrl : row.length = sz := h row (List.mem_of_getElem? hi)
  rw [hg, flat_set h hlt (by simp [hrl])]
  by_cases h1 : i * sz ≤ m ∧ m < i * sz + sz
  · rw [if_pos h1]
    by_cases h2 : m = i * sz + j
    · subst h2
      rw [if_pos rfl]
      have : i * sz + j - i * sz = j := by omega
      rw [this]
      simp [hjl]
    · rw [if_neg h2]
      rw [List.getElem?_set_ne (by omega)]
      have hm : m - i * sz < row.length := by omega
      have := flat_get h hi (List.getElem?_eq_getElem hm)
      rw [show i * sz + (m - i * sz) = m by omega] at this
      rw [this, List.getElem?_eq_getElem hm]
  · rw [if_neg h1, if_neg (by omega)]
def updT (T : Nat → PSet) (n : Nat) (S : PSet) : Nat → PSet := fun m => if m = n then S else T m
theorem updT_same (T : Nat → PSet) (n : Nat) (S : PSet) : updT T n S n = S := if_pos rfl
theorem updT_ne (T : Nat → PSet) {n m : Nat} (S : PSet) (h : m ≠ n) : updT T n S m = T m := if_neg h
theorem own_set {w : World} {Fz : PSet} : ∀ (p : List (Nat × Nat)) (k sz : Nat) (rows : List (List D)) (v hv : Value) (S : PSet) (sz' : Nat) (rows' : List (List D)),
    Own w Fz k v (.slc sz rows) S → hdrAt w sz rows v p = some hv → rowsAt sz rows p = some (sz', rows') → p.length < k →
    ∃ S1 : PSet, (∀ x y, S1 x y → S x y) ∧ Own w Fz (k - p.length) hv (.slc sz' rows') S1 ∧
      ∀ (w' : World) (Fz' : PSet) (new : List (List D)) (S1' : PSet), (∀ b o, Fz b o → Fz' b o) → Keeps w w' Fz →
        (∀ b o, S b o → ¬ S1 b o → w'.cell? (at_ b o) = w.cell? (at_ b o) ∧ w'.frz? (at_ b o) = w.frz? (at_ b o)) → (∀ x y, S1' x y → S1 x y ∨ ¬ S x y) →
        Own w' Fz' (k - p.length) hv (.slc sz' new) S1' → Own w' Fz' k v (.slc sz (setAt sz rows p new)) (fun x y => (S x y ∧ ¬ S1 x y) ∨ S1' x y) := by
  intro p
  induction p with
  | nil =>
    intro k sz rows v hv S sz' rows' ho h1 h2 hk
    simp only [hdrAt, Option.some.injEq] at h1
    simp only [rowsAt, Option.some.injEq, Prod.mk.injEq] at h2
    obtain ⟨rfl, rfl⟩ := h2
    subst h1
    refine ⟨S, fun _ _ h => h, ho, fun w' Fz' new S1' _ _ _ _ hn => hn.congr fun x y => ⟨fun h => .inr h, fun h => h.elim (fun h => absurd h.1 h.2) id⟩⟩
  | cons ij p ih =>
    intro k sz rows v hv S sz' rows' ho h1 h2 hk
    obtain ⟨i, j⟩ := ij
    simp only [List.length_cons] at hk
    obtain ⟨k, rfl⟩ : ∃ q, k = q + 1 := ⟨k - 1, by omega⟩
    unfold hdrAt at h1
    split at h1
    · rename_i a len cap sz1 rows1 he
      split at h1
      · rename_i u hu
        unfold rowsAt at h2
        rw [he] at h2
        simp only at h2
        obtain ⟨row, hrow, hd⟩ := bind_get he
        rcases ho with ⟨e1, _⟩ | ⟨b, off, cap', T, e1, g1, g2, g3, g4, g5, g6, g7⟩
        · cases e1
        · cases e1
          have hm := flat_get g3 hrow hd
          have hmlt := mem_len hm
          have hfl := flat_len g3
          have hle : rows.length * sz ≤ cap * sz := Nat.mul_le_mul_right _ g1
          obtain ⟨u', hu', ho'⟩ := g4 _ _ hm
          have : u' = u := by
            have := hu'.symm.trans hu
            exact Option.some.inj this
          subst this
          obtain ⟨S1, s1, s2, s3⟩ := ih k sz1 rows1 u' hv (T (i * sz + j)) sz' rows' ho' h1 h2 (by omega)
          have hkk : k + 1 - (p.length + 1) = k - p.length := by omega
          refine ⟨S1, fun x y h => (g7 x y).2 (.inr ⟨_, hmlt, s1 x y h⟩), by rw [List.length_cons, hkk]; exact s2, ?_⟩
          intro w' Fz' new S1' f1 f2 f3 f4 f6
          rw [List.length_cons, hkk] at f6
          have hS1rng : ∀ x y, S1 x y → ¬ rng b off (cap * sz) x y := fun x y h hr => g6 _ hmlt x y hr (s1 x y h)
          have hkeep : Keeps w w' (rng b off (cap * sz)) := fun x y hr => f3 x y ((g7 x y).2 (.inl hr)) fun h => hS1rng x y h hr
          have hTn : ∀ x y, T (i * sz + j) x y → S x y := fun x y h => (g7 x y).2 (.inr ⟨_, hmlt, h⟩)
          have hnew := s3 w' Fz' new S1' f1 f2 (fun x y h h' => f3 x y (hTn x y h) h') (fun x y h => (f4 x y h).imp id fun h1 h2 => h1 (hTn x y h2)) f6
          have hset : setAt sz rows ((i, j) :: p) new = rows.set i ((rows.getD i []).set j (.slc sz1 (setAt sz1 rows1 p new))) := by
            simp only [setAt, he]
          rw [hset]
          have hlen : (rows.set i ((rows.getD i []).set j (.slc sz1 (setAt sz1 rows1 p new)))).length = rows.length := by simp
          have hrl : ∀ r, r ∈ rows.set i ((rows.getD i []).set j (.slc sz1 (setAt sz1 rows1 p new))) → r.length = sz := by
            intro r hr
            rcases List.mem_or_eq_of_mem_set hr with h | rfl
            · exact g3 r h
            · have : rows.getD i [] = row := by simp [List.getD, hrow]
              rw [this]; simp [g3 row (List.mem_of_getElem? hrow)]
          have hfl' : (rows.set i ((rows.getD i []).set j (.slc sz1 (setAt sz1 rows1 p new)))).flatten.length = rows.flatten.length := by
            rw [flat_len hrl, hlen, hfl]
          refine .inr ⟨b, off, cap, updT T (i * sz + j) (fun x y => (T (i * sz + j) x y ∧ ¬ S1 x y) ∨ S1' x y), by rw [hlen], by rw [hlen]; exact g1, g2.keep hkeep, hrl, ?_, ?_, ?_, ?_⟩
          · intro m d hmd
            rw [flat_set2 g3 hrow hd] at hmd
            by_cases hmm : m = i * sz + j
            · subst hmm
              rw [if_pos rfl] at hmd
              cases hmd
              refine ⟨u', ?_, by rw [updT_same]; exact hnew⟩
              exact ((hkeep b (off + (i * sz + j)) ⟨rfl, by omega, by omega⟩).1).trans hu'
            · rw [if_neg hmm] at hmd
              have hmlt' := mem_len hmd
              obtain ⟨x, hx, hox⟩ := g4 m d hmd
              refine ⟨x, ((hkeep b (off + m) ⟨rfl, by omega, by omega⟩).1).trans hx, ?_⟩
              rw [updT_ne _ _ hmm]
              refine Own.mono f1 f2 k (fun y z hyz => f3 y z ((g7 y z).2 (.inr ⟨m, hmlt', hyz⟩)) fun h => g5 m _ hmlt' hmlt hmm y z hyz (s1 y z h)) hox
          · rw [hfl']
            intro m m' hm1 hm2 hne x y h1 h2
            by_cases c1 : m = i * sz + j
            · have c2 : m' ≠ i * sz + j := fun e => hne (c1.trans e.symm)
              rw [c1, updT_same] at h1
              rw [updT_ne _ _ c2] at h2
              rcases h1 with h1 | h1
              · exact g5 _ m' hmlt hm2 (fun e => c2 e.symm) x y h1.1 h2
              · rcases f4 x y h1 with h3 | h3
                · exact g5 _ m' hmlt hm2 (fun e => c2 e.symm) x y (s1 x y h3) h2
                · exact h3 ((g7 x y).2 (.inr ⟨m', hm2, h2⟩))
            · rw [updT_ne _ _ c1] at h1
              by_cases c2 : m' = i * sz + j
              · rw [c2, updT_same] at h2
                rcases h2 with h2 | h2
                · exact g5 m _ hm1 hmlt c1 x y h1 h2.1
                · rcases f4 x y h2 with h3 | h3
                  · exact g5 m _ hm1 hmlt c1 x y h1 (s1 x y h3)
                  · exact h3 ((g7 x y).2 (.inr ⟨m, hm1, h1⟩))
              · rw [updT_ne _ _ c2] at h2
                exact g5 m m' hm1 hm2 hne x y h1 h2
          · rw [hfl']
            intro m hm1 x y hr h1
            by_cases c1 : m = i * sz + j
            · rw [c1, updT_same] at h1
              rcases h1 with h1 | h1
              · exact g6 _ hmlt x y hr h1.1
              · rcases f4 x y h1 with h3 | h3
                · exact hS1rng x y h3 hr
                · exact h3 ((g7 x y).2 (.inl hr))
            · rw [updT_ne _ _ c1] at h1
              exact g6 m hm1 x y hr h1
          · intro x y
            rw [hfl']
            constructor
            · rintro (⟨h1, h2⟩ | h1)
              · rcases (g7 x y).1 h1 with h3 | ⟨m, hm1, h3⟩
                · exact .inl h3
                · by_cases c1 : m = i * sz + j
                  · exact .inr ⟨i * sz + j, hmlt, by rw [updT_same]; exact .inl ⟨c1 ▸ h3, h2⟩⟩
                  · exact .inr ⟨m, hm1, by rw [updT_ne _ _ c1]; exact h3⟩
              · exact .inr ⟨i * sz + j, hmlt, by rw [updT_same]; exact .inr h1⟩
            · rintro (h1 | ⟨m, hm1, h1⟩)
              · exact .inl ⟨(g7 x y).2 (.inl h1), fun h => hS1rng x y h h1⟩
              · by_cases c1 : m = i * sz + j
                · rw [c1, updT_same] at h1
                  rcases h1 with ⟨h1, h2⟩ | h1
                  · exact .inl ⟨hTn x y h1, h2⟩
                  · exact .inr h1
                · rw [updT_ne _ _ c1] at h1
                  exact .inl ⟨(g7 x y).2 (.inr ⟨m, hm1, h1⟩), fun h => g5 m _ hm1 hmlt c1 x y h1 (s1 x y h)⟩
      · cases h1
    · cases h1
end Go.Proofs.YtmihpclfdicfkaaDoor.Ab

namespace Go.Proofs.YtmihpclfdicfkaaDoor.Ab
def OpOkU (P : Program) (c : Ctx) (g : Gh) (h : Nat → Option O) (w : World) (base : Nat) (r : Sem Unit) (wr : Wr) : Prop :=
  ∃ g' w', r.run P w = .ok () w' ∧ HInv c g' (updF h wr.objs) w' ∧ Ext g g' h (updF h wr.objs) w w' ∧ RA g' (updF h wr.objs) w' wr.val Go.undef ∧
    ∀ n, g'.Nm n → g.Nm n ∨ (base ≤ n ∧ n < base + 64)
theorem setDs_get (row : List D) (off : Nat) (ds : List D) (h : off + ds.length ≤ row.length) (m : Nat) :
    (setDs row off ds)[m]? = if off ≤ m ∧ m < off + ds.length then ds[m - off]? else row[m]? := by
  unfold setDs
  by_cases h1 : m < off
  · rw [if_neg (by omega), List.append_assoc, List.getElem?_append_left (by simp; omega), List.getElem?_take_of_lt h1]
  · by_cases h2 : m < off + ds.length
    · rw [if_pos ⟨by omega, h2⟩, List.append_assoc, List.getElem?_append_right (by simp; omega), List.getElem?_append_left (by simp; omega)]
      congr 1; simp; omega
    · rw [if_neg (by omega), List.append_assoc, List.getElem?_append_right (by simp; omega), List.getElem?_append_right (by simp; omega), List.getElem?_drop]
      congr 1; simp; omega
theorem setDs_len (row : List D) (off : Nat) (ds : List D) (h : off + ds.length ≤ row.length) : (setDs row off ds).length = row.length := by simp [setDs]; omega
section
variable {P : Program} {c : Ctx} {g : Gh} {w : World} {base : Nat} {e : Env}
theorem run_storeAt {t : TypeId} {inf : TypeInfo} (hinf : P.info? t = some inf) {b q : Nat} {v : Value} (hv : v.cells.size = inf.size) (hr : Room w b q v.cells.size) (h1 : ∀ u, u ∈ v.cells.toList → u.oneCell' = true) :
    (Instr.storeAt t (.pointer (some (at_ b q))) v).run P w = .ok () (setMany w b q v.cells.toList) := by
  have hs := run_storeCells P b q v.cells.toList w 0 (by simpa using hr) h1
  simp only [Nat.add_zero] at hs
  simp only [Instr.storeAt, Instr.sureAddr, Sem.run_bind, Sem.run_pure, Result.andThen_ok, storeVar, sizeOf, typeInfo, run_program, hinf]
  rw [if_neg (by simp [hv])]
  exact hs
theorem own_seg {k b o len cap sz i off : Nat} {rows : List (List D)} {row ds : List D} {S : PSet} {vs : Nat → Value} {us : List Value} {ns : List Nat} {Fz' : PSet} {h : Nat → Option O}
    (ho : Own w g.Fz (k + 1) (.slice (some (at_ b o)) len cap) (.slc sz rows) S) (hrow : rows[i]? = some row) (hle : off + ds.length ≤ row.length)
    (ht : Took g h w k ds.length vs ds ns) (hus : us.length = ds.length) (hv : ∀ (m : Nat) u, us[m]? = some u → u = vs m) (hF : ∀ x y, FzP g k ns x y → Fz' x y)
    (hout : ∀ q, q ∈ ns → ∀ x y, g.F q x y → ¬ S x y) (hSz : ∀ x y, S x y → ¬ g.Fz x y) :
    ∃ S', (∀ x y, S' x y → S x y ∨ ∃ q, q ∈ ns ∧ g.F q x y) ∧ (k = 0 → ∀ x y, S' x y → S x y) ∧ Room w b (o + (i * sz + off)) ds.length ∧ (∀ m, m < ds.length → S b (o + (i * sz + off) + m)) ∧
      Own (setMany w b (o + (i * sz + off)) us) Fz' (k + 1) (.slice (some (at_ b o)) len cap) (.slc sz (rows.set i (setDs row off ds))) S' := by
  obtain ⟨t1, t2, t3, T2, t4, t5, t6⟩ := ht
  rcases ho with ⟨e1, _⟩ | ⟨b', o', cap', T, e1, g1, g2, g3, g4, g5, g6, g7⟩
  · cases e1
  · cases e1
    have hil := (List.getElem?_eq_some_iff.1 hrow).1
    have hrl : row.length = sz := g3 row (List.mem_of_getElem? hrow)
    have hfl := flat_len g3
    have hle2 : rows.length * sz ≤ cap * sz := Nat.mul_le_mul_right _ g1
    have hmul : i * sz + sz ≤ rows.length * sz := by
      have : (i + 1) * sz ≤ rows.length * sz := Nat.mul_le_mul_right _ hil
      rw [Nat.add_mul] at this; omega
    have hroom : Room w b (o + (i * sz + off)) ds.length := by
      intro q hq
      obtain ⟨h1, h2⟩ := g2 (i * sz + off + q) (by omega)
      rw [show o + (i * sz + off) + q = o + (i * sz + off + q) by omega]
      exact ⟨h1, h2⟩
    have hin : ∀ m, m < ds.length → S b (o + (i * sz + off) + m) := fun m hm => (g7 _ _).2 (.inl ⟨rfl, by omega, by omega⟩)
    have hnr : ∀ x y, ¬ (x = b ∧ o + (i * sz + off) ≤ y ∧ y < o + (i * sz + off) + us.length) →
        (setMany w b (o + (i * sz + off)) us).cell? (at_ x y) = w.cell? (at_ x y) ∧ (setMany w b (o + (i * sz + off)) us).frz? (at_ x y) = w.frz? (at_ x y) :=
      fun x y h => ⟨setMany_other b us w _ h, setMany_frozen b _ us w _⟩
    have hkz : ∀ (Z : PSet), (∀ x y, Z x y → ¬ rng b o (cap * sz) x y) → Keeps w (setMany w b (o + (i * sz + off)) us) Z := by
      intro Z hZ x y hz
      refine hnr x y fun h => hZ x y hz ⟨h.1, by omega, by omega⟩
    let T' : Nat → PSet := fun m => if i * sz + off ≤ m ∧ m < i * sz + off + ds.length then T2 (m - (i * sz + off)) else T m
    have hnl : (rows.set i (setDs row off ds)).length = rows.length := by simp
    have hnr' : ∀ r, r ∈ rows.set i (setDs row off ds) → r.length = sz := by
      intro r hr
      rcases List.mem_or_eq_of_mem_set hr with h | rfl
      · exact g3 r h
      · rw [setDs_len _ _ _ hle]; exact hrl
    have hnf : (rows.set i (setDs row off ds)).flatten.length = rows.flatten.length := by rw [flat_len hnr', hnl, hfl]
    have hget : ∀ m, (rows.set i (setDs row off ds)).flatten[m]? = if i * sz + off ≤ m ∧ m < i * sz + off + ds.length then ds[m - (i * sz + off)]? else rows.flatten[m]? := by
      intro m
      rw [flat_set g3 hil (by rw [setDs_len _ _ _ hle]; exact hrl)]
      by_cases h1 : i * sz ≤ m ∧ m < i * sz + sz
      · rw [if_pos h1, setDs_get _ _ _ hle]
        by_cases h2 : i * sz + off ≤ m ∧ m < i * sz + off + ds.length
        · rw [if_pos (by omega), if_pos h2]; congr 1; omega
        · rw [if_neg (by omega), if_neg h2]
          have hm : m - i * sz < row.length := by omega
          have := flat_get g3 hrow (List.getElem?_eq_getElem hm)
          rw [show i * sz + (m - i * sz) = m by omega] at this
          rw [this, List.getElem?_eq_getElem hm]
      · rw [if_neg h1, if_neg (by omega)]
    have hT2 : ∀ m x y, T2 m x y → ¬ rng b o (cap * sz) x y ∧ ∀ q, q < rows.flatten.length → ¬ T q x y := by
      intro m x y hm
      obtain ⟨q, hq, hF'⟩ := t5 m x y hm
      have := hout q hq x y hF'
      exact ⟨fun hr => this ((g7 x y).2 (.inl hr)), fun p hp hT => this ((g7 x y).2 (.inr ⟨p, hp, hT⟩))⟩
    have hFz0 : ∀ x y, g.Fz x y → ¬ rng b o (cap * sz) x y := fun x y hz hr => hSz x y ((g7 x y).2 (.inl hr)) hz
    have hFzP : ∀ x y, FzP g k ns x y → ¬ rng b o (cap * sz) x y := by
      rintro x y (h1 | ⟨_, q, hq, h1⟩)
      · exact hFz0 x y h1
      · exact fun hr => hout q hq x y h1 ((g7 x y).2 (.inl hr))
    refine ⟨fun x y => rng b o (cap * sz) x y ∨ ∃ m, m < rows.flatten.length ∧ T' m x y, ?_, ?_, hroom, hin, .inr ⟨b, o, cap, T', by rw [hnl], by rw [hnl]; exact g1, ?_, hnr', ?_, ?_, ?_, ?_⟩⟩
    · rintro x y (h1 | ⟨m, hm, h1⟩)
      · exact .inl ((g7 x y).2 (.inl h1))
      · simp only [T'] at h1
        split at h1
        · exact .inr (t5 _ x y h1)
        · exact .inl ((g7 x y).2 (.inr ⟨m, hm, h1⟩))
    · rintro rfl x y (h1 | ⟨m, hm, h1⟩)
      · exact (g7 x y).2 (.inl h1)
      · simp only [T'] at h1
        split at h1
        · rename_i h2
          have := t4 (m - (i * sz + off)) _ (List.getElem?_eq_getElem (by omega))
          exact (this.2 x y h1).elim
        · exact (g7 x y).2 (.inr ⟨m, hm, h1⟩)
    · intro q hq
      obtain ⟨⟨u, hu⟩, hf⟩ := g2 q hq
      refine ⟨?_, by rw [setMany_frozen]; exact hf⟩
      by_cases h1 : o + (i * sz + off) ≤ o + q ∧ o + q < o + (i * sz + off) + us.length
      · have hl : o + q - (o + (i * sz + off)) < us.length := by omega
        have := setMany_get b us w (o + (i * sz + off)) (by rw [hus]; exact hroom) _ _ (List.getElem?_eq_getElem hl)
        rw [show o + (i * sz + off) + (o + q - (o + (i * sz + off))) = o + q by omega] at this
        exact ⟨_, this⟩
      · exact ⟨u, by rw [setMany_other b us w _ (by omega)]; exact hu⟩
    · intro m d hm
      rw [hget m] at hm
      by_cases h2 : i * sz + off ≤ m ∧ m < i * sz + off + ds.length
      · rw [if_pos h2] at hm
        have hl : m - (i * sz + off) < us.length := by omega
        have hu := List.getElem?_eq_getElem hl
        have := setMany_get b us w (o + (i * sz + off)) (by rw [hus]; exact hroom) _ _ hu
        rw [show o + (i * sz + off) + (m - (i * sz + off)) = o + m by omega] at this
        refine ⟨_, this, ?_⟩
        rw [hv _ _ hu]
        simp only [T']
        rw [if_pos h2]
        exact Own.mono hF (hkz _ hFzP) k (hkz _ fun x y h => (hT2 _ x y h).1) (t4 _ d hm)
      · rw [if_neg h2] at hm
        obtain ⟨u, hu, hou⟩ := g4 m d hm
        have hml := mem_len hm
        refine ⟨u, by rw [setMany_other b us w _ (by omega)]; exact hu, ?_⟩
        simp only [T']
        rw [if_neg h2]
        exact Own.mono (fun x y h => hF x y (.inl h)) (hkz _ hFz0) k (hkz _ fun x y h hr => g6 m hml x y hr h) hou
    · rw [hnf]
      intro p q hp hq hne x y h1 h2
      simp only [T'] at h1 h2
      split at h1
      · split at h2
        · exact t6 _ _ (by omega) x y h1 h2
        · exact (hT2 _ x y h1).2 q hq h2
      · split at h2
        · exact (hT2 _ x y h2).2 p hp h1
        · exact g5 p q hp hq hne x y h1 h2
    · rw [hnf]
      intro m hm x y hr h1
      simp only [T'] at h1
      split at h1
      · exact (hT2 _ x y h1).1 hr
      · exact g6 m hm x y hr h1
    · intro x y
      rw [hnf]
end
end Go.Proofs.YtmihpclfdicfkaaDoor.Ab

namespace Go.Proofs.YtmihpclfdicfkaaDoor.Ab
theorem updF_dels2 (m : Nat) (o : O) : ∀ (ns : List Nat) (h : Nat → Option O), updF h (ns.map (fun q => (q, none)) ++ [(m, some o)]) = fun q => if q = m then some o else if q ∈ ns then none else h q := updF_dels o
section
variable {P : Program} {c : Ctx} {g : Gh} {w : World} {base : Nat} {e : Env}
theorem op_store (hi : HInv c g e.h w) {t : TypeId} {inf : TypeInfo} {x a : A} {v vx : Value} {wr : Wr} (hinf : P.info? t = some inf) (hx : RA g e.h w x vx) (hv : RA g e.h w a v)
    (h : Out e (storeA inf.size x a) wr) : OpOkU P c g e.h w base (Instr.storeAt t vx v) wr := by
  unfold storeA at h
  split at h
  · exact h.fail.elim
  · rename_i hlen
    have hlen : (cellsOf a).length = inf.size := by omega
    split at h
    · rename_i m off
      obtain ⟨o, ho, h2⟩ := h.rh
      split at h2
      · rename_i cells
        split at h2
        · rename_i hcond
          obtain ⟨hle, hpo⟩ := hcond
          rw [h2.ret]
          obtain ⟨b, q, hν, hr, hF, hc⟩ := hi.obj m _ ho
          cases hx with | ptr _ _ b' q' hn hν' => ?_
          rw [hν] at hν'
          cases hν'
          obtain ⟨c1, c2⟩ := hv.cells' hpo
          have hroom : Room w b (q + off) v.cells.size := by
            intro j hj
            have := hr (off + j) (by omega)
            rwa [← Nat.add_assoc] at this
          have h1 : ∀ u, u ∈ v.cells.toList → u.oneCell' = true := by
            intro u hu
            obtain ⟨j, hj, rfl⟩ := List.getElem_of_mem hu
            have hj' : j < (cellsOf a).length := by rw [← c1]; simpa using hj
            have := (c2 j _ (List.getElem?_eq_getElem hj')).1
            have hj2 : j < v.cells.size := by simpa using hj
            simpa [Array.getD_eq_getD_getElem?, hj2] using this
          have hrun := run_storeAt (P := P) (w := w) hinf (by rw [c1, hlen]) hroom h1
          have hcl : (setCells cells off (cellsOf a)).length = cells.length := by simp [setCells]; omega
          have hFm : ∀ y, q + off ≤ y ∧ y < q + off + v.cells.toList.length → g.F m b y := by
            intro y hy
            simp only [Array.length_toList] at hy
            exact (hF _ _).2 ⟨rfl, by omega, by omega⟩
          have hstep := mkStep (g' := g) (h' := updF e.h [(m, some (.box (setCells cells off (cellsOf a))))]) (w' := setMany w b (q + off) v.cells.toList) hi (fun n => n = m) (setMany_side _ _ _ _) (by rw [setMany_size]; exact Nat.le_refl _)
            (fun n hn' => ⟨by have : n ≠ m := hn'; simp [updF1, this], fun _ => rfl⟩) (fun n h => h) (fun n _ => rfl)
            (fun k hk hT => by
              by_cases hkb : k = b
              · subst hkb
                by_cases hz : v.cells.toList = []
                · rw [hz]; rfl
                · exact absurd ⟨m, _, rfl, ho, hFm (q + off) ⟨Nat.le_refl _, by have := List.length_pos_iff.2 hz; omega⟩⟩ (hT (q + off))
              · exact setMany_heap b hkb _ w _)
            (fun k y hk hT => ⟨setMany_other b _ w _ (fun hky => by obtain ⟨rfl, h3, h4⟩ := hky; exact hT ⟨m, _, rfl, ho, hFm y ⟨h3, h4⟩⟩), setMany_frozen b _ _ w _⟩)
            (fun k y h => h) (fun k y h => .inl h)
            (fun n ver k sz rows hn' _ hh => by
              have hn2 : n = m := hn'
              subst hn2
              simp [updF1] at hh)
            (fun ex n o' hn' ho' => by
              have hn2 : n = m := hn'
              subst hn2
              simp only [updF1, if_pos, Option.some.injEq] at ho'
              subst ho'
              refine ⟨hn, b, q, hν, ?_, by rw [hcl]; exact hF, ?_⟩
              · rw [hcl]
                intro j hj
                obtain ⟨⟨u, hu⟩, hf⟩ := hr j hj
                refine ⟨?_, by rw [setMany_frozen]; exact hf⟩
                by_cases hin : q + off ≤ q + j ∧ q + j < q + off + v.cells.toList.length
                · have hl : q + j - (q + off) < v.cells.toList.length := by omega
                  have := setMany_get b v.cells.toList w (q + off) (by simpa using hroom) _ _ (List.getElem?_eq_getElem hl)
                  rw [show q + off + (q + j - (q + off)) = q + j by omega] at this
                  exact ⟨_, this⟩
                · exact ⟨u, by rw [setMany_other b _ w _ (by omega)]; exact hu⟩
              · intro j a' ha'
                rw [setCells_get _ _ _ _ (by omega)] at ha'
                by_cases hin : off ≤ j ∧ j < off + (cellsOf a).length
                · rw [if_pos hin] at ha'
                  obtain ⟨g1, g2⟩ := c2 _ a' ha'
                  have hl : j - off < v.cells.size := by omega
                  have hl' : j - off < v.cells.toList.length := by simpa using hl
                  have := setMany_get b v.cells.toList w (q + off) (by simpa using hroom) _ _ (List.getElem?_eq_getElem hl')
                  rw [show q + off + (j - off) = q + j by omega] at this
                  have e1 : v.cells.getD (j - off) Go.undef = v.cells.toList[j - off] := by simp [Array.getD_eq_getD_getElem?, hl]
                  rw [e1] at g1 g2
                  exact ⟨_, this, g1, g2.ext ex⟩
                · rw [if_neg hin] at ha'
                  obtain ⟨u, hu, g1, g2⟩ := hc j a' ha'
                  have hjl := (List.getElem?_eq_some_iff.1 ha').1
                  exact ⟨u, by rw [setMany_other b _ w _ (by simp; omega)]; exact hu, g1, g2.ext ex⟩)
            (fun n o' hn' ho' x y hxy => by
              have hn2 : n = m := hn'
              subst hn2
              exact ⟨.inl ⟨n, _, rfl, ho, hxy⟩, by rw [setMany_size]; exact hi.lt n _ ho x y hxy, (hi.mine n _ ho x y hxy).2⟩)
            (fun n n' o1 o2 hn1 hn2 _ _ hne => absurd ((show n = m from hn1).trans (show n' = m from hn2).symm) hne)
          exact ⟨g, _, hrun, hstep.1, hstep.2, .skip, fun n h => .inl h⟩
        · exact h2.fail.elim
      · exact h2.fail.elim
    · rename_i m ver p i off
      obtain ⟨o, ho, h2⟩ := h.rh
      split at h2
      · rename_i ver' k sz rows
        split at h2
        · rename_i hcond
          obtain ⟨hpv, hpk⟩ := hcond
          split at h2
          · rename_i sz' rows' hrows
            split at h2
            · rename_i row hrow
              split at h2
              · rename_i hle
                obtain ⟨⟨ds, ns⟩, h3, h4⟩ := Out.bind h2
                simp only at h4
                split at h4
                · exact h4.fail.elim
                · rename_i hmns
                  rw [h4.ret]
                  obtain ⟨hn, _, he⟩ := hx.elt_inv
                  obtain ⟨hver, he⟩ := he _ _ _ _ ho
                  obtain ⟨sz2, rows2, b, q, len, cap, e1, e2, rfl⟩ := he hpv
                  rw [hrows] at e1
                  cases e1
                  have hown : Own w g.Fz (k + 1) (g.ν m) (.slc sz rows) (g.F m) := hi.obj m _ ho
                  obtain ⟨S1, s1, s2, s3⟩ := own_set p (k + 1) sz rows (g.ν m) _ (g.F m) sz' rows' hown e2 hrows (by omega)
                  have hkk : k + 1 - p.length = (k - p.length) + 1 := by omega
                  rw [hkk] at s2 s3
                  obtain ⟨c1, c2⟩ := hv.cells (fun b' hb' => by
                    by_cases ha : ∃ l, a = .agg l
                    · exact .inl ha
                    · exact .inr (out_take_cellB h3 b' hb'))
                  have htook := takeCells_ok hi (k - p.length) (cellsOf a) (fun j => v.cells.getD j Go.undef) ds ns (fun j b' hb' => (c2 j b' hb').2) h3
                  have hdl : ds.length = (cellsOf a).length := htook.1
                  rw [← hdl] at htook
                  have hout : ∀ r, r ∈ ns → ∀ x y, g.F r x y → ¬ g.F m x y := by
                    intro r hr x y hxy hxy'
                    obtain ⟨or, hor⟩ := htook.2.2.1 r hr
                    exact hi.disj r m or _ hor ho (fun e => hmns (e ▸ hr)) x y hxy hxy'
                  have hvl : v.cells.toList.length = ds.length := by simp [c1, hdl]
                  obtain ⟨S2, u1, u2, u3, u4, u5⟩ := own_seg (g := g) (h := e.h) (Fz' := FzP g (k - p.length) ns) (us := v.cells.toList) (i := i) (off := off) (row := row) s2 hrow (by omega) htook hvl
                    (fun j u hj => by
                      have hjl : j < v.cells.size := by have := (List.getElem?_eq_some_iff.1 hj).1; simpa using this
                      simp [Array.getD_eq_getD_getElem?, hjl] at hj ⊢
                      exact hj.symm) (fun x y h => h) (fun r hr x y hxy h => hout r hr x y hxy (s1 x y h)) (fun x y h => (hi.mine m _ ho x y (s1 x y h)).2)
                  have hroom : Room w b (q + (i * sz' + off)) v.cells.size := by rw [c1, ← hdl]; exact u3
                  have h1 : ∀ u, u ∈ v.cells.toList → u.oneCell' = true := by
                    intro u hu
                    obtain ⟨j, hj, rfl⟩ := List.getElem_of_mem hu
                    have hj' : j < (cellsOf a).length := by rw [← c1]; simpa using hj
                    have := (c2 j _ (List.getElem?_eq_getElem hj')).1
                    have hj2 : j < v.cells.size := by simpa using hj
                    simpa [Array.getD_eq_getD_getElem?, hj2] using this
                  have hrun := run_storeAt (P := P) (w := w) hinf (by rw [c1, hlen]) hroom h1
                  have hnb : ∀ x y, ¬ S1 x y → (setMany w b (q + (i * sz' + off)) v.cells.toList).cell? (at_ x y) = w.cell? (at_ x y) ∧ (setMany w b (q + (i * sz' + off)) v.cells.toList).frz? (at_ x y) = w.frz? (at_ x y) := by
                    intro x y hS
                    refine ⟨setMany_other b _ w _ (fun hky => ?_), setMany_frozen b _ _ w _⟩
                    obtain ⟨rfl, h5, h6⟩ := hky
                    have := u4 (y - (q + (i * sz' + off))) (by omega)
                    rw [show q + (i * sz' + off) + (y - (q + (i * sz' + off))) = y by omega] at this
                    exact hS this
                  have hfin := s3 (setMany w b (q + (i * sz' + off)) v.cells.toList) (FzP g (k - p.length) ns) (rows'.set i (setDs row off ds)) S2 (fun x y h => .inl h)
                    (fun x y hz => hnb x y fun h => (hi.mine m _ ho x y (s1 x y h)).2 hz) (fun x y _ h => hnb x y h)
                    (fun x y h => (u1 x y h).imp id fun ⟨r, hr, hF⟩ => hout r hr x y hF) u5
                  let S' : PSet := fun x y => (g.F m x y ∧ ¬ S1 x y) ∨ S2 x y
                  let g' : Gh := { g with F := fun n => if n = m then S' else g.F n, Fz := FzP g (k - p.length) ns }
                  have hh' := updF_dels2 m (.arr (ver' + 1) k sz (setAt sz rows p (rows'.set i (setDs row off ds)))) ns e.h
                  have hT : ∀ x y, S1 x y → Tch g e.h (fun n => n = m ∨ n ∈ ns) x y := fun x y h => ⟨m, _, .inl rfl, ho, s1 x y h⟩
                  have hstep := mkStep (g' := g') (h' := updF e.h (ns.map (fun r => (r, none)) ++ [(m, some (.arr (ver' + 1) k sz (setAt sz rows p (rows'.set i (setDs row off ds)))))])) (w' := setMany w b (q + (i * sz' + off)) v.cells.toList) hi
                    (fun n => n = m ∨ n ∈ ns) (setMany_side _ _ _ _) (by rw [setMany_size]; exact Nat.le_refl _)
                    (fun n hn' => by
                      have n1 : n ≠ m := fun e => hn' (.inl e)
                      have n2 : n ∉ ns := fun e => hn' (.inr e)
                      exact ⟨by rw [hh']; simp [n1, n2], fun _ => by simp [g', n1]⟩) (fun n h => h) (fun n _ => rfl)
                    (fun k' hk hT' => by
                      by_cases hkb : k' = b
                      · subst hkb
                        by_cases hz : v.cells.toList = []
                        · rw [hz]; rfl
                        · have hp := List.length_pos_iff.2 hz
                          exact absurd (hT _ _ (u4 0 (by omega))) (hT' _)
                      · exact setMany_heap b hkb _ w _)
                    (fun k' y hk hT' => hnb k' y fun h => hT' (hT _ _ h))
                    (fun k' y h => .inl h)
                    (fun k' y hz => by
                      rcases hz with h5 | ⟨_, r, hr, hF⟩
                      · exact .inl h5
                      · obtain ⟨or, hor⟩ := htook.2.2.1 r hr
                        exact .inr (.inl ⟨r, or, .inr hr, hor, hF⟩))
                    (fun n ver2 k2 sz2 rows2 hn' _ hh => by
                      rw [hh'] at hh
                      rcases hn' with rfl | hn'
                      · simp only [if_pos, Option.some.injEq, O.arr.injEq] at hh
                        obtain ⟨rfl, rfl, rfl, rfl⟩ := hh
                        exact ⟨ver', _, rows, ho, by omega⟩
                      · have : n ≠ m := fun e => hmns (e ▸ hn')
                        simp [this, hn'] at hh)
                    (fun ex n o' hn' ho' => by
                      rw [hh'] at ho'
                      rcases hn' with rfl | hn'
                      · simp only [if_pos, Option.some.injEq] at ho'
                        subst ho'
                        refine ⟨hn, ?_⟩
                        have hF' : g'.F n = S' := if_pos rfl
                        have goal : Own (setMany w b (q + (i * sz' + off)) v.cells.toList) g'.Fz (k + 1) (g'.ν n) (.slc sz (setAt sz rows p (rows'.set i (setDs row off ds)))) (g'.F n) := by rw [hF']; exact hfin
                        exact goal
                      · have : n ≠ m := fun e => hmns (e ▸ hn')
                        simp [this, hn'] at ho')
                    (fun n o' hn' ho' x y hxy => by
                      rw [hh'] at ho'
                      rcases hn' with rfl | hn'
                      · simp only [g', if_pos, S'] at hxy
                        rcases hxy with ⟨h5, _⟩ | h5
                        · refine ⟨.inl ⟨n, _, .inl rfl, ho, h5⟩, by rw [setMany_size]; exact hi.lt n _ ho x y h5, fun hz => ?_⟩
                          rcases hz with h6 | ⟨_, r, hr, hF⟩
                          · exact (hi.mine n _ ho x y h5).2 h6
                          · exact hout r hr x y hF h5
                        · rcases u1 x y h5 with h6 | ⟨r, hr, hF⟩
                          · refine ⟨.inl (hT x y h6), by rw [setMany_size]; exact hi.lt n _ ho x y (s1 x y h6), fun hz => ?_⟩
                            rcases hz with h7 | ⟨_, r, hr, hF⟩
                            · exact (hi.mine n _ ho x y (s1 x y h6)).2 h7
                            · exact hout r hr x y hF (s1 x y h6)
                          · obtain ⟨or, hor⟩ := htook.2.2.1 r hr
                            refine ⟨.inl ⟨r, or, .inr hr, hor, hF⟩, by rw [setMany_size]; exact hi.lt r or hor x y hF, fun hz => ?_⟩
                            rcases hz with h7 | ⟨hk0, _⟩
                            · exact (hi.mine r or hor x y hF).2 h7
                            · exact hout r hr x y hF (s1 x y (u2 hk0 x y h5))
                      · have : n ≠ m := fun e => hmns (e ▸ hn')
                        simp [this, hn'] at ho')
                    (fun n n' o1 o2 hn1 hn2 ho1 ho2 hne => by
                      rw [hh'] at ho1 ho2
                      rcases hn1 with rfl | hn1
                      · rcases hn2 with rfl | hn2
                        · exact absurd rfl hne
                        · have : n' ≠ n := fun e => hne e.symm
                          simp [this, hn2] at ho2
                      · have : n ≠ m := fun e => hmns (e ▸ hn1)
                        simp [this, hn1] at ho1)
                  refine ⟨g', _, ?_, hstep.1, hstep.2, .skip, fun n h => .inl h⟩
                  exact hrun
              · exact h2.fail.elim
            · exact h2.fail.elim
          · exact h2.fail.elim
        · exact h2.fail.elim
      · exact h2.fail.elim
    · exact h.fail.elim
end
end Go.Proofs.YtmihpclfdicfkaaDoor.Ab

namespace Go.Proofs.YtmihpclfdicfkaaDoor.Ab
structure SrcRun (P : Program) (w : World) (u : TypeId) (size n : Nat) (x : Value) (news : List Value) : Prop where
  ty : ∃ d, P.underlying u = some d ∧ ∀ k, d ≠ .int k
  len : ∀ w' : World, (Builtin.lenOf x).run P w' = .ok n w'
  cells : ∀ w' : World, (w' = w ∨ w' = w.drew) → (Builtin.firstCells size n x).run P w' = .ok news.toArray w'
  one : ∀ v, v ∈ news → v.oneCell' = true
section
variable {P : Program} {w : World}
theorem not_int {u : TypeId} {d : TypeDesc} (h : P.underlying u = some d) (hk : ∀ k, d ≠ .int k) (w' : World) :
    (do pure ((← underlying u) matches .int _) : Sem Bool).run P w' = .ok false w' := by
  simp only [Sem.run_bind, run_underlying h, Result.andThen_ok]
  cases d <;> first | rfl | exact absurd rfl (hk _)
theorem run_append_room' {t u ty el : TypeId} {inf : TypeInfo} (ht : P.underlying t = some (.slice el)) (hinf : P.info? el = some inf) {b o sLen sCap n : Nat} {x : Value} {news : List Value}
    (hs : SrcRun P w u inf.size n x news) (hle : sLen + n ≤ sCap) (hroom : Room w b (o + sLen * inf.size) news.length) :
    (Builtin.append_ #[t, u] ty #[.slice (some (at_ b o)) sLen sCap, x]).run P w = .ok (.slice (some (at_ b o)) (sLen + n) sCap) (setMany w b (o + sLen * inf.size) news) := by
  obtain ⟨d, hd, hk⟩ := hs.ty
  have h1 := hs.len w
  have h2 := hs.cells w (.inl rfl)
  have ha : Addr.add (at_ b o) (sLen * inf.size) = at_ b (o + sLen * inf.size) := add_at _ _ _
  have h3 := run_storeCells P b (o + sLen * inf.size) news w 0 (by simpa using hroom) hs.one
  simp only [Nat.add_zero] at h3
  simp only [Builtin.append_, List.getElem?_toArray, List.getElem?_cons_zero, List.getElem?_cons_succ, Sem.run_bind, run_underlying ht, Result.andThen_ok, sizeOf, typeInfo, run_program, hinf, Sem.run_pure, run_underlying hd]
  simp [h1, hle, h2, ha, h3]
theorem run_append_nil' {t u ty el : TypeId} {inf : TypeInfo} (ht : P.underlying t = some (.slice el)) (hinf : P.info? el = some inf) {x : Value} {news : List Value}
    (hs : SrcRun P w u inf.size 0 x news) : (Builtin.append_ #[t, u] ty #[.slice none 0 0, x]).run P w = .ok (.slice none 0 0) w := by
  obtain ⟨d, hd, hk⟩ := hs.ty
  have h1 := hs.len w
  have h2 := hs.cells w (.inl rfl)
  simp only [Builtin.append_, List.getElem?_toArray, List.getElem?_cons_zero, List.getElem?_cons_succ, Sem.run_bind, run_underlying ht, Result.andThen_ok, sizeOf, typeInfo, run_program, hinf, Sem.run_pure, run_underlying hd]
  simp [h1, h2]
theorem run_append_grow' {t u ty el : TypeId} {inf : TypeInfo} {z : Value} (ht : P.underlying t = some (.slice el)) (hinf : P.info? el = some inf) (hz : inf.zero = some z) {base : Option Addr} {sLen sCap n : Nat} {x : Value} {olds news : List Value}
    (hs : SrcRun P w u inf.size n x news) (hlt : sCap < sLen + n) (hb : 0 < inf.bytes) (hlim : (sLen + n) * inf.bytes ≤ limit)
    (hold : ∀ w' : World, (w' = w ∨ w' = w.drew) → (Builtin.firstCells inf.size sLen (.slice base sLen sCap)).run P w' = .ok olds.toArray w') :
    (Builtin.append_ #[t, u] ty #[.slice base sLen sCap, x]).run P w =
      .ok (.slice (some (at_ w.heap.size 0)) (sLen + n) (grownCap w (sLen + n) sCap el)) (w.drew.alloc (.cells (olds.toArray ++ (news.toArray ++ Builtin.zeroCells z.cells (grownCap w (sLen + n) sCap el - (sLen + n)))) el)) := by
  obtain ⟨d, hd, hk⟩ := hs.ty
  have h1 := hs.len w
  have h2 := hs.cells w.drew (.inr rfl)
  have h3 := hold w.drew (.inr rfl)
  unfold limit at hlim
  have hnn : ¬ (sLen + n ≤ sCap) := by omega
  have h48 := growslice_fits hlt hlim
  have h48' : ¬ (281474976710656 < Builtin.nextslicecap (sLen + n) sCap * inf.bytes) := by omega
  have hb0 : ¬ inf.bytes = 0 := by omega
  simp only [Builtin.append_, List.getElem?_toArray, List.getElem?_cons_zero, List.getElem?_cons_succ, Sem.run_bind, run_underlying ht, Result.andThen_ok, sizeOf, typeInfo, run_program, hinf, Sem.run_pure, run_underlying hd]
  simp [h1, hnn, h48', hb0, Question.forced, h2, h3, newRow, grownCap, zeroValue, typeInfo, hinf, hz]
end
end Go.Proofs.YtmihpclfdicfkaaDoor.Ab

namespace Go.Proofs.YtmihpclfdicfkaaDoor.Ab
theorem own_empty {w : World} {Fz : PSet} {k sz : Nat} {a' : Option Addr} (h : a' = none ∨ ∃ b o, a' = some (at_ b o)) : Own w Fz (k + 1) (.slice a' 0 0) (.slc sz []) (fun _ _ => False) := by
  rcases h with rfl | ⟨b, o, rfl⟩
  · exact .inl ⟨rfl, rfl, fun _ _ h => h⟩
  · refine .inr ⟨b, o, 0, fun _ _ _ => False, rfl, Nat.le_refl _, fun q hq => by simp at hq, fun r hr => by simp at hr, fun m d hm => by simp at hm, fun i j hi => by simp at hi, fun m hm => by simp at hm, fun x y => ?_⟩
    constructor
    · intro h; exact h.elim
    · rintro (⟨_, h1, h2⟩ | ⟨m, hm, _⟩)
      · simp at h2; omega
      · simp at hm
theorem Own.sub {w : World} {Fz : PSet} {k sz len cap lo hi : Nat} {a a' : Option Addr} {rows : List (List D)} {S : PSet} (h : Own w Fz (k + 1) (.slice a len cap) (.slc sz rows) S) (h1 : lo ≤ hi) (h2 : hi ≤ len) (h3 : hi ≤ cap)
    (h4 : lo < cap → a' = a.map (·.add (lo * sz))) (h5 : cap = lo → a' = none ∨ ∃ b o, a' = some (at_ b o)) :
    ∃ S', Own w Fz (k + 1) (.slice a' (hi - lo) (cap - lo)) (.slc sz ((rows.take hi).drop lo)) S' ∧ ∀ x y, S' x y → S x y := by
  obtain ⟨_, _, ev, _⟩ := own_len h
  have hlen : len = rows.length := by cases ev; rfl
  subst hlen
  by_cases hc : cap = lo
  · have e1 : hi - lo = 0 := by omega
    have e2 : cap - lo = 0 := by omega
    have e3 : (rows.take hi).drop lo = [] := by apply List.drop_eq_nil_of_le; simp; omega
    rw [e1, e2, e3]
    exact ⟨_, own_empty (h5 hc), fun _ _ h => h.elim⟩
  · rcases h with ⟨e1, rfl, _⟩ | ⟨b, off, cap', T, e1, g1, g2, g3, g4, g5, g6, g7⟩
    · cases e1; simp at h2; omega
    · cases e1
      rw [h4 (by omega)]
      simp only [Option.map_some, add_at]
      have hfl := flat_len g3
      have hl : ((rows.take hi).drop lo).length = hi - lo := by simp; omega
      have hrl : ∀ r, r ∈ (rows.take hi).drop lo → r.length = sz := fun r hr => g3 r (List.mem_of_mem_take (List.mem_of_mem_drop hr))
      have hflat : ((rows.take hi).drop lo).flatten = (rows.flatten.take (hi * sz)).drop (lo * sz) := by
        rw [flat_drop (sz := sz) (fun row hrow => g3 row (List.mem_of_mem_take hrow)) lo (by simp; omega), flat_take g3 hi h2]
      have hget : ∀ m d, ((rows.take hi).drop lo).flatten[m]? = some d → rows.flatten[lo * sz + m]? = some d := by
        intro m d hm
        rw [hflat, List.getElem?_drop, List.getElem?_take] at hm
        split at hm
        · exact hm
        · cases hm
      have hlt : ∀ m, m < ((rows.take hi).drop lo).flatten.length → lo * sz + m < rows.flatten.length := fun m hm => mem_len (hget m _ (List.getElem?_eq_getElem hm))
      have hcl : lo * sz + (cap - lo) * sz = cap * sz := by rw [← Nat.add_mul]; congr 1; omega
      have hsub : ∀ x y, rng b (off + lo * sz) ((cap - lo) * sz) x y → rng b off (cap * sz) x y := fun x y h => ⟨h.1, by have := h.2.1; omega, by have := h.2.2; omega⟩
      refine ⟨fun x y => rng b (off + lo * sz) ((cap - lo) * sz) x y ∨ ∃ m, m < ((rows.take hi).drop lo).flatten.length ∧ T (lo * sz + m) x y, .inr ⟨b, off + lo * sz, cap - lo, fun m => T (lo * sz + m), by rw [hl], by rw [hl]; omega, ?_, hrl, ?_, ?_, ?_, fun x y => Iff.rfl⟩, ?_⟩
      · intro q hq
        have := g2 (lo * sz + q) (by omega)
        rwa [← Nat.add_assoc] at this
      · intro m d hm
        obtain ⟨u, hu, ho⟩ := g4 _ d (hget m d hm)
        exact ⟨u, by rw [Nat.add_assoc]; exact hu, ho⟩
      · intro i j hi' hj' hne
        exact g5 _ _ (hlt i hi') (hlt j hj') (by omega)
      · intro m hm x y hr
        exact g6 _ (hlt m hm) x y (hsub x y hr)
      · rintro x y (hr | ⟨m, hm, hT⟩)
        · exact (g7 x y).2 (.inl (hsub x y hr))
        · exact (g7 x y).2 (.inr ⟨_, hlt m hm, hT⟩)
section
variable {P : Program} {c : Ctx} {g : Gh} {w : World} {base : Nat} {e : Env}
def Mine (g : Gh) (h : Nat → Option O) (w : World) (v : Value) (k sz : Nat) (rows : List (List D)) (ns : List Nat) : Prop :=
  ∃ S1, Own w g.Fz (k + 1) v (.slc sz rows) S1 ∧ (∀ x y, S1 x y → ∃ n, n ∈ ns ∧ g.F n x y) ∧ ns.Nodup ∧ ∀ n, n ∈ ns → ∃ o, h n = some o
theorem out_ownA (hi : HInv c g e.h w) {x : A} {v : Value} {r : Nat × Nat × List (List D) × List Nat} (hx : RA g e.h w x v) (h : Out e (ownA x) r) : Mine g e.h w v r.1 r.2.1 r.2.2.1 r.2.2.2 := by
  unfold ownA at h
  split at h
  · rename_i k sz
    rw [h.ret]
    cases hx
    exact ⟨fun _ _ => False, own_empty (.inl rfl), fun _ _ h => h.elim, List.nodup_nil, fun n hn => by simp at hn⟩
  · rename_i n
    obtain ⟨o, ho, h⟩ := h.rh
    split at h
    · rw [h.ret]
      cases hx with | sl _ hn hone1 => ?_
      exact ⟨g.F n, hi.obj n _ ho, fun x y h => ⟨n, by simp, h⟩, List.nodup_cons.2 ⟨by simp, List.nodup_nil⟩, fun q hq => by simp at hq; subst hq; exact ⟨_, ho⟩⟩
    · exact h.fail.elim
  · rename_i n sz lo hi'
    obtain ⟨o, ho, h⟩ := h.rh
    split at h
    · rename_i ver k sz' rows
      split at h
      · rename_i hc
        obtain ⟨hsz, hlo, hhi⟩ := hc
        subst hsz
        rw [h.ret]
        cases hx with | sv _ _ _ _ len cap a a1 hn ev h1 h2 h3 h4 h5 h6 => ?_
        have hown : Own w g.Fz (k + 1) (g.ν n) (.slc sz rows) (g.F n) := hi.obj n _ ho
        rw [ev] at hown
        obtain ⟨S', ho', hS⟩ := hown.sub h1 h2 h3 h4 h5
        exact ⟨S', ho', fun x y h => ⟨n, by simp, hS x y h⟩, List.nodup_cons.2 ⟨by simp, List.nodup_nil⟩, fun q hq => by simp at hq; subst hq; exact ⟨_, ho⟩⟩
      · exact h.fail.elim
    · exact h.fail.elim
  · exact h.fail.elim
def cellVals (w : World) (b o n : Nat) : List Value := (List.range n).map fun j => (w.cell? (at_ b (o + j))).getD Go.undef
theorem cellVals_len (w : World) (b o n : Nat) : (cellVals w b o n).length = n := by simp [cellVals]
theorem run_first (P : Program) {w w' : World} (hw : w'.heap = w.heap) {b o size n len cap : Nat} (hc : ∀ j, j < n * size → ∃ u, w.cell? (at_ b (o + j)) = some u) :
    (Builtin.firstCells size n (.slice (some (at_ b o)) len cap)).run P w' = .ok (cellVals w b o (n * size)).toArray w' := by
  have hcell : ∀ a : Addr, w'.cell? a = w.cell? a := fun a => by simp [World.cell?, hw]
  refine run_firstCells_some (P := P) w' size n (at_ b o) len cap _ (cellVals_len w b o _) ?_
  intro j v hj
  have hjl : j < n * size := by have := (List.getElem?_eq_some_iff.1 hj).1; rwa [cellVals_len] at this
  obtain ⟨u, hu⟩ := hc j hjl
  rw [add_at, hcell, hu]
  simp [cellVals, hjl, hu] at hj
  rw [hj]
def Src (P : Program) (g : Gh) (h : Nat → Option O) (w : World) (u : TypeId) (k sz : Nat) (v : Value) (rows : List (List D)) (ms : List Nat) : Prop :=
  (∀ r, r ∈ rows → r.length = sz) ∧ ms.Nodup ∧ (∀ n, n ∈ ms → ∃ o, h n = some o) ∧ ∃ (news : List Value) (T : Nat → PSet), news.length = rows.length * sz ∧ SrcRun P w u sz rows.length v news ∧
    (∀ (m : Nat) d, rows.flatten[m]? = some d → ∃ x, news[m]? = some x ∧ Own w g.Fz k x d (T m)) ∧ (∀ m, m < rows.flatten.length → ∀ x y, T m x y → ∃ n, n ∈ ms ∧ g.F n x y) ∧ Disj rows.flatten.length T
theorem src_slice {u el : TypeId} {h : Nat → Option O} (hu : P.underlying u = some (.slice el)) {k sz : Nat} {b o len cap : Nat} {rows : List (List D)} {ms : List Nat} {T : Nat → PSet} (hr : ∀ r, r ∈ rows → r.length = sz) (hlen : len = rows.length)
    (hc : ∀ (m : Nat) d, rows.flatten[m]? = some d → ∃ x, w.cell? (at_ b (o + m)) = some x ∧ Own w g.Fz k x d (T m)) (hd : Disj rows.flatten.length T) (hT : ∀ m, m < rows.flatten.length → ∀ x y, T m x y → ∃ n, n ∈ ms ∧ g.F n x y)
    (hnd : ms.Nodup) (hlive : ∀ n, n ∈ ms → ∃ o, h n = some o) : Src P g h w u k sz (.slice (some (at_ b o)) len cap) rows ms := by
  subst hlen
  have hfl := flat_len hr
  have hcell : ∀ j, j < rows.length * sz → ∃ x, w.cell? (at_ b (o + j)) = some x := by
    intro j hj
    obtain ⟨x, hx, _⟩ := hc j _ (List.getElem?_eq_getElem (by omega))
    exact ⟨x, hx⟩
  have hget : ∀ (m : Nat) d, rows.flatten[m]? = some d → ∃ x, (cellVals w b o (rows.length * sz))[m]? = some x ∧ Own w g.Fz k x d (T m) := by
    intro m d hm
    obtain ⟨x, hx, hox⟩ := hc m d hm
    have := mem_len hm
    exact ⟨x, by simp [cellVals, (by omega : m < rows.length * sz), hx], hox⟩
  refine ⟨hr, hnd, hlive, cellVals w b o (rows.length * sz), T, cellVals_len _ _ _ _, ⟨⟨_, hu, fun k h => by cases h⟩, fun w' => rfl, fun w' hw => run_first P (by rcases hw with rfl | rfl <;> rfl) hcell, ?_⟩, hget, hT, hd⟩
  intro v hv
  obtain ⟨j, hj, rfl⟩ := List.getElem_of_mem hv
  rw [cellVals_len] at hj
  obtain ⟨x, hx, hox⟩ := hget j _ (List.getElem?_eq_getElem (by omega))
  rw [List.getElem?_eq_getElem (by rw [cellVals_len]; exact hj)] at hx
  cases hx
  exact hox.one
theorem out_srcA (hi : HInv c g e.h w) {u el : TypeId} (hu : P.underlying u = some (.slice el)) {k sz : Nat} {y : A} {v : Value} {r : List (List D) × List Nat} (hy : RA g e.h w y v) (h : Out e (srcA k sz y) r) :
    Src P g e.h w u k sz v r.1 r.2 := by
  have hnil : ∀ a cap, Src P g e.h w u k sz (.slice a 0 cap) [] [] := by
    intro a cap
    refine ⟨fun r hr => by simp at hr, List.nodup_nil, fun n hn => by simp at hn, [], fun _ _ _ => False, by simp, ⟨⟨_, hu, fun k h => by cases h⟩, fun w' => rfl, fun w' _ => ?_, fun v hv => by simp at hv⟩, fun m d hm => by simp at hm, fun m hm => by simp at hm, fun i j hi' => by simp at hi'⟩
    cases a with
    | none => simp [Builtin.firstCells]
    | some a => simp [Builtin.firstCells, loadCells, loadCellsFrom]
  unfold srcA at h
  split at h
  · rename_i m
    obtain ⟨o, ho, h2⟩ := h.rh
    split at h2
    · rename_i ver k' sz' rows
      split at h2
      · rename_i hc
        obtain ⟨rfl, rfl⟩ := hc
        rw [h2.ret]
        cases hy with | sl _ hn hone1 => ?_
        have hown : Own w g.Fz (k' + 1) (g.ν m) (.slc sz' rows) (g.F m) := hi.obj m _ ho
        have hnd : [m].Nodup := List.nodup_cons.2 ⟨by simp, List.nodup_nil⟩
        have hlive : ∀ q, q ∈ [m] → ∃ o, e.h q = some o := fun q hq => by simp at hq; subst hq; exact ⟨_, ho⟩
        rcases hown with ⟨e1, rfl, _⟩ | ⟨b, off, cap, T, e1, g1, g2, g3, g4, g5, g6, g7⟩
        · rw [e1]
          obtain ⟨a1, a2, a3, a4⟩ := hnil none 0
          obtain ⟨news, T, b1, b2, b3, b4, b5⟩ := a4
          exact ⟨a1, hnd, hlive, news, T, b1, b2, b3, fun m hm => by simp at hm, b5⟩
        · rw [e1]
          exact src_slice hu g3 rfl g4 g5 (fun j hj x y hT => ⟨m, by simp, (g7 x y).2 (.inr ⟨j, hj, hT⟩)⟩) hnd hlive
      · exact h2.fail.elim
    · exact h2.fail.elim
  · rename_i sz' rows
    split at h
    · rename_i hc
      have h2 := h
      clear h
      obtain ⟨rfl, rfl⟩ := hc
      rw [h2.ret]
      cases hy with | d _ _ hs => ?_
      rcases hs.slc_inv with ⟨rfl, a, cap, rfl⟩ | ⟨b, o, cap, vs, rfl, hr, hcap, hc, hs'⟩
      · exact hnil a cap
      · exact src_slice (T := fun _ _ _ => False) hu hr rfl (fun m d hm => ⟨vs m, (hc m d hm).1, hs' m d hm, fun _ _ h => h⟩) (fun _ _ _ _ _ _ _ h => h.elim) (fun _ _ _ _ h => h.elim) List.nodup_nil (fun n hn => by simp at hn)
    · exact h.fail.elim
  · rw [h.ret]
    cases hy
    exact hnil none 0
  · exact h.fail.elim
theorem src_str {u : TypeId} (hu : P.underlying u = some .string) (h : Nat → Option O) (l : List UInt8) : Src P g h w u 0 1 (.string ⟨l.toArray⟩) (bytesD l) [] := by
  have hsz : (⟨l.toArray⟩ : ByteArray).size = l.length := by show l.toArray.size = l.length; simp
  have hlen : (bytesD l).length = l.length := by simp [bytesD]
  refine ⟨fun r hr => by simp [bytesD] at hr; obtain ⟨_, _, rfl⟩ := hr; rfl, List.nodup_nil, fun n hn => by simp at hn, l.map fun b => .int .u8 b.toNat, fun _ _ _ => False, by simp [hlen], ⟨⟨_, hu, fun k h => by cases h⟩, fun w' => by rw [hlen]; simp [Builtin.lenOf, hsz], fun w' _ => ?_, fun v hv => by simp at hv; obtain ⟨_, _, rfl⟩ := hv; rfl⟩, ?_, fun _ _ _ _ h => h.elim, fun _ _ _ _ _ _ _ h => h.elim⟩
  · have he : (⟨l.toArray⟩ : ByteArray).extract 0 l.length = ⟨l.toArray⟩ := by
      apply ByteArray.ext
      simp [ByteArray.data_extract]
    simp [Builtin.firstCells, hlen, he]
  · intro m d hm
    rw [flat_bytes, List.getElem?_map] at hm
    cases hb : l[m]? with
    | none => simp [hb] at hm
    | some b =>
      simp only [hb, Option.map_some, Option.some.injEq] at hm
      subst hm
      exact ⟨.int .u8 b.toNat, by simp [hb], .int _ _, fun _ _ h => h⟩
end
end Go.Proofs.YtmihpclfdicfkaaDoor.Ab

namespace Go.Proofs.YtmihpclfdicfkaaDoor.Ab
theorem apart_of_B {xs ys : List Nat} (h : apartB xs ys = true) : ∀ x, x ∈ xs → x ∉ ys := by
  intro x hx
  unfold apartB at h
  rw [List.all_eq_true] at h
  have := h x hx
  simpa using this
section
variable {P : Program} {c : Ctx} {g : Gh} {w : World} {base : Nat} {e : Env}
theorem op_rename {h : Nat → Option O} (hi : HInv c g h w) (hf : ¬ g.Nm base) {r : Sem Value} {w' : World} {v' : Value} {k sz : Nat} {rows : List (List D)} {ns : List Nat} {S' S1 : PSet} (hlive : ∀ n, n ∈ ns → ∃ o, h n = some o)
    (hown : Own w' g.Fz (k + 1) v' (.slc sz rows) S') (hS' : ∀ x y, S' x y → ∃ n, n ∈ ns ∧ g.F n x y) (hsize : w'.heap.size = w.heap.size) (hside : w'.os = w.os ∧ w'.output = w.output) (hS1 : ∀ x y, S1 x y → ∃ n, n ∈ ns ∧ g.F n x y)
    (hheap : ∀ b, (∀ o, ¬ S1 b o) → w'.heap[b]? = w.heap[b]?) (hcell : ∀ x y, ¬ S1 x y → w'.cell? (at_ x y) = w.cell? (at_ x y) ∧ w'.frz? (at_ x y) = w.frz? (at_ x y)) (hr : r.run P w = .ok v' w') :
    OpOk P c g h w base r { val := .sl base, objs := ns.map (fun q => (q, none)) ++ [(base, some (.arr 0 k sz rows))] } := by
  have hnb : base ∉ ns := fun hb => by obtain ⟨o, ho⟩ := hlive base hb; exact hf (hi.nm _ _ ho)
  let g' : Gh := { ν := fun m => if m = base then v' else g.ν m, F := fun m => if m = base then S' else g.F m, Fz := g.Fz, Nm := fun m => g.Nm m ∨ m = base }
  have hh' := updF_dels (base := base) (.arr 0 k sz rows) ns h
  have hTch : ∀ x y, (∃ n, n ∈ ns ∧ g.F n x y) → Tch g h (fun n => n = base ∨ n ∈ ns) x y := by
    rintro x y ⟨n, hn, hF⟩
    obtain ⟨o, ho⟩ := hlive n hn
    exact ⟨n, o, .inr hn, ho, hF⟩
  have hstep := mkStep (g' := g') (h' := updF h (ns.map (fun q => (q, none)) ++ [(base, some (.arr 0 k sz rows))])) (w' := w') hi (fun n => n = base ∨ n ∈ ns) hside (Nat.le_of_eq hsize.symm)
    (fun n hn => by
      have h1 : n ≠ base := fun e => hn (.inl e)
      have h2 : n ∉ ns := fun e => hn (.inr e)
      exact ⟨by rw [hh']; simp [h1, h2], fun _ => by simp [g', h1]⟩)
    (fun n hn => .inl hn)
    (fun n hn => by
      have : n ≠ base := fun e => hf (e ▸ hn)
      simp [g', this])
    (fun b _ hT => hheap b fun o ho => hT o (hTch b o (hS1 b o ho))) (fun b o _ hT => hcell b o fun ho => hT (hTch b o (hS1 b o ho))) (fun b o h => h) (fun b o h => .inl h)
    (fun n ver k' sz' rows' hn hnm hh => by
      rw [hh'] at hh
      rcases hn with rfl | hn
      · exact absurd hnm hf
      · have : n ≠ base := fun e => hnb (e ▸ hn)
        simp [this, hn] at hh)
    (fun ex n o hn ho => by
      rw [hh'] at ho
      rcases hn with rfl | hn
      · simp only [if_pos, Option.some.injEq] at ho
        subst ho
        have h1 : g'.ν n = v' := if_pos rfl
        have h2 : g'.F n = S' := if_pos rfl
        have goal : Own w' g'.Fz (k + 1) (g'.ν n) (.slc sz rows) (g'.F n) := by rw [h1, h2]; exact hown
        exact ⟨.inr rfl, goal⟩
      · have : n ≠ base := fun e => hnb (e ▸ hn)
        simp [this, hn] at ho)
    (fun n o hn ho x y hxy => by
      rw [hh'] at ho
      rcases hn with rfl | hn
      · simp only [g', if_pos] at hxy
        obtain ⟨q, hq, hF⟩ := hS' x y hxy
        obtain ⟨oq, hoq⟩ := hlive q hq
        exact ⟨.inl ⟨q, oq, .inr hq, hoq, hF⟩, by rw [hsize]; exact hi.lt q oq hoq x y hF, (hi.mine q oq hoq x y hF).2⟩
      · have : n ≠ base := fun e => hnb (e ▸ hn)
        simp [this, hn] at ho)
    (fun n m o o' hn hm ho ho' hne => by
      rw [hh'] at ho ho'
      rcases hn with rfl | hn
      · rcases hm with rfl | hm
        · exact absurd rfl hne
        · have : m ≠ n := fun e => hnb (e ▸ hm)
          simp [this, hm] at ho'
      · have : n ≠ base := fun e => hnb (e ▸ hn)
        simp [this, hn] at ho)
  refine ⟨_, g', _, hr, hstep.1, hstep.2, ?_, fun n hn => ?_⟩
  · have h1 : g'.ν base = v' := if_pos rfl
    have := RA.sl (g := g') (h := updF h (ns.map (fun q => (q, none)) ++ [(base, some (.arr 0 k sz rows))])) (w := w') base (.inr rfl) (by rw [h1]; exact hown.one)
    rw [h1] at this
    exact this
  · rcases hn with h2 | h2
    · exact .inl h2
    · exact .inr ⟨by omega, by omega⟩
theorem op_append (hi : HInv c g e.h w) (hf : ¬ g.Nm base) {t u ty el : TypeId} {inf : TypeInfo} {z : Value} {s x : Value} {k : Nat} {rows rows' : List (List D)} {ns ms : List Nat} {wr : Wr} (ht : P.underlying t = some (.slice el)) (hinf : P.info? el = some inf)
    (hz : inf.zero = some z) (hzs : z.cells.size = inf.size) (hb : 0 < inf.bytes) {sz : Nat} (hm : Mine g e.h w s k sz rows ns) (hs : Src P g e.h w u k inf.size x rows' ms)
    (h : Out e (appCore base inf.size inf.bytes (k, sz, rows, ns) (rows', ms)) wr) : OpOk P c g e.h w base (Builtin.append_ #[t, u] ty #[s, x]) wr := by
  unfold appCore at h
  split at h
  · rename_i hc
    obtain ⟨hsz, hpos, hap⟩ := hc
    simp only at hsz hap
    subst hsz
    obtain ⟨hlim, h⟩ := h.need
    simp only at hlim
    rw [h.ret]
    simp only
    obtain ⟨S1, ho, hS1, hnd, hlive⟩ := hm
    obtain ⟨hr', hnd', hlive', news, T2, hnl, hrun, hg', hT2, hd2⟩ := hs
    have hap' := apart_of_B hap
    have hfl' := flat_len hr'
    have hlen : (rows ++ rows').length = rows.length + rows'.length := List.length_append
    have hlv : ∀ n, n ∈ ns ++ ms → ∃ o, e.h n = some o := fun n hn => (List.mem_append.1 hn).elim (hlive n) (hlive' n)
    have hx12 : ∀ x y, S1 x y → ∀ m, m < rows'.flatten.length → ¬ T2 m x y := by
      intro x y h1 m hm' h2
      obtain ⟨n1, a1, b1⟩ := hS1 x y h1
      obtain ⟨n2, a2, b2⟩ := hT2 m hm' x y h2
      obtain ⟨o1, q1⟩ := hlive n1 a1
      obtain ⟨o2, q2⟩ := hlive' n2 a2
      exact hi.disj n1 n2 o1 o2 q1 q2 (fun e => hap' n1 a1 (e ▸ a2)) x y b1 b2
    have grow : ∀ (sLen sCap : Nat) (bs : Option Addr) (olds : List Value) (T1 : Nat → PSet), s = .slice bs sLen sCap → sLen = rows.length → sCap < sLen + rows'.length → (∀ r, r ∈ rows → r.length = inf.size) → olds.length = rows.length * inf.size →
        (∀ w' : World, (w' = w ∨ w' = w.drew) → (Builtin.firstCells inf.size sLen (.slice bs sLen sCap)).run P w' = .ok olds.toArray w') →
        (∀ (m : Nat) d, rows.flatten[m]? = some d → ∃ x, olds[m]? = some x ∧ Own w g.Fz k x d (T1 m)) → Disj rows.flatten.length T1 → (∀ m, m < rows.flatten.length → ∀ x y, T1 m x y → S1 x y) →
        OpOk P c g e.h w base (Builtin.append_ #[t, u] ty #[s, x]) { val := .sl base, objs := (ns ++ ms).map (fun q => (q, none)) ++ [(base, some (.arr 0 k inf.size (rows ++ rows')))] } := by
      rintro sLen sCap bs olds T1 rfl rfl hlt hr hol hold hg1 hd1 hT1
      have hfl := flat_len hr
      have hrl : ∀ r, r ∈ rows ++ rows' → r.length = inf.size := fun r h => (List.mem_append.1 h).elim (hr r) (hr' r)
      have hflat : (rows ++ rows').flatten = rows.flatten ++ rows'.flatten := List.flatten_append
      have hge := grownCap_ge w (rows.length + rows'.length) sCap el
      have hcsz : (olds.toArray ++ (news.toArray ++ Builtin.zeroCells z.cells (grownCap w (rows.length + rows'.length) sCap el - (rows.length + rows'.length)))).size = grownCap w (rows.length + rows'.length) sCap el * inf.size := by
        simp only [Array.size_append, List.size_toArray, hol, hnl, size_zeroCells, hzs]
        rw [← Nat.add_mul, ← Nat.add_mul]
        congr 1; omega
      have hrun' := run_append_grow' (P := P) (w := w) (ty := ty) ht hinf hz hrun hlt hb hlim hold
      refine op_newarr (P := P) (base := base) (r := Builtin.append_ #[t, u] ty #[.slice bs rows.length sCap, x]) (k := k) (sz := inf.size) (cap := grownCap w (rows.length + rows'.length) sCap el) (rows := rows ++ rows') (ns := ns ++ ms)
        (T := fun m => if m < rows.flatten.length then T1 m else T2 (m - rows.flatten.length)) hi hf
        (IsNew.alloc_drew w _ el) hlv (by rw [hlen]; exact hge) (by rw [hcsz]; exact Nat.le_refl _) hrl ?_ ?_ ?_ (by rw [hlen]; exact hrun')
      · intro m d hmd
        rw [hflat] at hmd
        by_cases h1 : m < rows.flatten.length
        · rw [List.getElem?_append_left h1] at hmd
          obtain ⟨y, hy, hoy⟩ := hg1 m d hmd
          have hml : m < olds.length := by omega
          have : (olds.toArray ++ (news.toArray ++ Builtin.zeroCells z.cells (grownCap w (rows.length + rows'.length) sCap el - (rows.length + rows'.length)))).getD m Go.undef = y := by
            rw [List.getElem?_eq_getElem hml] at hy
            cases hy
            simp [Array.getD_eq_getD_getElem?, Array.getElem?_append, hml]
          rw [this, if_pos h1]
          exact Own.mono (fun b o h => .inl h) (Keeps.refl _ _) k (Keeps.refl _ _) hoy
        · rw [List.getElem?_append_right (by omega)] at hmd
          obtain ⟨y, hy, hoy⟩ := hg' _ d hmd
          have hml : ¬ m < olds.length := by omega
          have hml2 : m - olds.length < news.length := by have := mem_len hmd; omega
          have e1 : m - rows.flatten.length = m - olds.length := by omega
          have : (olds.toArray ++ (news.toArray ++ Builtin.zeroCells z.cells (grownCap w (rows.length + rows'.length) sCap el - (rows.length + rows'.length)))).getD m Go.undef = y := by
            rw [e1, List.getElem?_eq_getElem hml2] at hy
            cases hy
            simp [Array.getD_eq_getD_getElem?, Array.getElem?_append, hml, hml2]
          rw [this, if_neg h1]
          exact Own.mono (fun b o h => .inl h) (Keeps.refl _ _) k (Keeps.refl _ _) hoy
      · rw [hflat, List.length_append]
        intro i j hi' hj hne x y h1 h2
        split at h1
        · rename_i c1
          split at h2
          · rename_i c2; exact hd1 i j c1 c2 hne x y h1 h2
          · exact hx12 x y (hT1 i c1 x y h1) _ (by omega) h2
        · rename_i c1
          split at h2
          · rename_i c2; exact hx12 x y (hT1 j c2 x y h2) _ (by omega) h1
          · rename_i c2; exact hd2 _ _ (by omega) (by omega) (by omega) x y h1 h2
      · rw [hflat, List.length_append]
        intro m hm' x y h1
        split at h1
        · rename_i c1
          obtain ⟨n, hn, hF⟩ := hS1 x y (hT1 m c1 x y h1)
          exact ⟨n, by simp [hn], hF⟩
        · obtain ⟨n, hn, hF⟩ := hT2 _ (by omega) x y h1
          exact ⟨n, by simp [hn], hF⟩
    rcases ho with ⟨rfl, rfl, hS⟩ | ⟨b, off, cap, T1, rfl, g1, g2, g3, g4, g5, g6, g7⟩
    · by_cases hz0 : rows'.length = 0
      · have hr0 : rows' = [] := List.length_eq_zero_iff.1 hz0
        subst hr0
        have hrun0 := run_append_nil' (P := P) (w := w) (ty := ty) ht hinf hrun
        exact op_rename (S1 := fun _ _ => False) (S' := fun _ _ => False) hi hf hlv (own_empty (.inl rfl)) (fun _ _ h => h.elim) rfl ⟨rfl, rfl⟩ (fun _ _ h => h.elim) (fun _ _ => rfl) (fun _ _ _ => ⟨rfl, rfl⟩) hrun0
      · exact grow 0 0 none [] (fun _ _ _ => False) rfl rfl (by omega) (fun r hr => by simp at hr) (by simp) (fun w' _ => by simp [Builtin.firstCells]) (fun m d hm' => by simp at hm') (fun i j hi' => by simp at hi') (fun m hm' => by simp at hm')
    · have hfl := flat_len g3
      have hle : rows.length * inf.size ≤ cap * inf.size := Nat.mul_le_mul_right _ g1
      by_cases hroom : rows.length + rows'.length ≤ cap
      · have hrl : ∀ r, r ∈ rows ++ rows' → r.length = inf.size := fun r h => (List.mem_append.1 h).elim (g3 r) (hr' r)
        have hflat : (rows ++ rows').flatten = rows.flatten ++ rows'.flatten := List.flatten_append
        have hcap : (rows.length + rows'.length) * inf.size ≤ cap * inf.size := Nat.mul_le_mul_right _ hroom
        rw [Nat.add_mul] at hcap
        have hroom' : Room w b (off + rows.length * inf.size) news.length := by
          intro q hq
          have := g2 (rows.length * inf.size + q) (by omega)
          rwa [← Nat.add_assoc] at this
        have hrun' := run_append_room' (P := P) (w := w) (ty := ty) ht hinf hrun hroom hroom'
        have hother : ∀ x y, ¬ (x = b ∧ off + rows.length * inf.size ≤ y ∧ y < off + rows.length * inf.size + news.length) →
            (setMany w b (off + rows.length * inf.size) news).cell? (at_ x y) = w.cell? (at_ x y) ∧ (setMany w b (off + rows.length * inf.size) news).frz? (at_ x y) = w.frz? (at_ x y) :=
          fun x y h => ⟨setMany_other b news w _ h, setMany_frozen b _ news w _⟩
        have hkz : ∀ (Z : PSet), (∀ x y, Z x y → ¬ rng b off (cap * inf.size) x y) → Keeps w (setMany w b (off + rows.length * inf.size) news) Z := by
          intro Z hZ x y hz
          refine hother x y fun h => hZ x y hz ⟨h.1, by omega, by omega⟩
        have hFz : Keeps w (setMany w b (off + rows.length * inf.size) news) g.Fz := by
          refine hkz _ fun x y hz hr => ?_
          obtain ⟨n, hn, hF⟩ := hS1 x y ((g7 x y).2 (.inl hr))
          obtain ⟨o, ho⟩ := hlive n hn
          exact (hi.mine n o ho x y hF).2 hz
        let T' : Nat → PSet := fun m => if m < rows.flatten.length then T1 m else T2 (m - rows.flatten.length)
        refine op_rename (S1 := S1) (S' := fun x y => rng b off (cap * inf.size) x y ∨ ∃ m, m < (rows ++ rows').flatten.length ∧ T' m x y) hi hf hlv ?_ ?_ (setMany_size b news w _) (setMany_side b news w _) (fun x y h => by obtain ⟨n, hn, hF⟩ := hS1 x y h; exact ⟨n, by simp [hn], hF⟩) ?_ ?_ hrun'
        · refine .inr ⟨b, off, cap, T', by rw [hlen], by rw [hlen]; exact hroom, ?_, hrl, ?_, ?_, ?_, fun x y => Iff.rfl⟩
          · intro q hq
            obtain ⟨⟨u', hu'⟩, hf'⟩ := g2 q hq
            refine ⟨?_, by rw [setMany_frozen]; exact hf'⟩
            by_cases h1 : off + rows.length * inf.size ≤ off + q ∧ off + q < off + rows.length * inf.size + news.length
            · have hl : off + q - (off + rows.length * inf.size) < news.length := by omega
              have := setMany_get b news w (off + rows.length * inf.size) hroom' _ _ (List.getElem?_eq_getElem hl)
              rw [show off + rows.length * inf.size + (off + q - (off + rows.length * inf.size)) = off + q by omega] at this
              exact ⟨_, this⟩
            · exact ⟨u', by rw [setMany_other b news w _ (by omega)]; exact hu'⟩
          · intro m d hmd
            rw [hflat] at hmd
            by_cases h1 : m < rows.flatten.length
            · rw [List.getElem?_append_left h1] at hmd
              obtain ⟨y, hy, hoy⟩ := g4 m d hmd
              refine ⟨y, by rw [setMany_other b news w _ (by omega)]; exact hy, ?_⟩
              simp only [T']
              rw [if_pos h1]
              exact Own.mono (fun b o h => h) hFz k (hkz _ fun x y h hr => g6 m h1 x y hr h) hoy
            · rw [List.getElem?_append_right (by omega)] at hmd
              obtain ⟨y, hy, hoy⟩ := hg' _ d hmd
              have hml := mem_len hmd
              have := setMany_get b news w (off + rows.length * inf.size) hroom' _ _ hy
              rw [show off + rows.length * inf.size + (m - rows.flatten.length) = off + m by omega] at this
              refine ⟨y, this, ?_⟩
              simp only [T']
              rw [if_neg h1]
              exact Own.mono (fun b o h => h) hFz k (hkz _ fun x y h hr => hx12 x y ((g7 x y).2 (.inl hr)) _ hml h) hoy
          · rw [hflat, List.length_append]
            intro i j hi' hj hne x y h1 h2
            simp only [T'] at h1 h2
            split at h1
            · rename_i c1
              split at h2
              · rename_i c2; exact g5 i j c1 c2 hne x y h1 h2
              · exact hx12 x y ((g7 x y).2 (.inr ⟨i, c1, h1⟩)) _ (by omega) h2
            · rename_i c1
              split at h2
              · rename_i c2; exact hx12 x y ((g7 x y).2 (.inr ⟨j, c2, h2⟩)) _ (by omega) h1
              · rename_i c2; exact hd2 _ _ (by omega) (by omega) (by omega) x y h1 h2
          · rw [hflat, List.length_append]
            intro m hm' x y hr h1
            simp only [T'] at h1
            split at h1
            · rename_i c1; exact g6 m c1 x y hr h1
            · exact hx12 x y ((g7 x y).2 (.inl hr)) _ (by omega) h1
        · rw [hflat, List.length_append]
          rintro x y (h1 | ⟨m, hm', h1⟩)
          · obtain ⟨n, hn, hF⟩ := hS1 x y ((g7 x y).2 (.inl h1))
            exact ⟨n, by simp [hn], hF⟩
          · simp only [T'] at h1
            split at h1
            · rename_i c1
              obtain ⟨n, hn, hF⟩ := hS1 x y ((g7 x y).2 (.inr ⟨m, c1, h1⟩))
              exact ⟨n, by simp [hn], hF⟩
            · obtain ⟨n, hn, hF⟩ := hT2 _ (by omega) x y h1
              exact ⟨n, by simp [hn], hF⟩
        · intro b' hb'
          by_cases hbb : b' = b
          · subst hbb
            by_cases hz : news = []
            · rw [hz]; rfl
            · have hp := List.length_pos_iff.2 hz
              exact absurd ((g7 _ _).2 (.inl ⟨rfl, by omega, by omega⟩)) (hb' (off + rows.length * inf.size))
          · exact setMany_heap b hbb news w _
        · intro x y h
          refine hother x y fun h1 => h ((g7 x y).2 (.inl ⟨h1.1, by omega, by omega⟩))
      · refine grow rows.length cap (some (at_ b off)) (cellVals w b off (rows.length * inf.size)) T1 rfl rfl (by omega) g3 (cellVals_len _ _ _ _) (fun w' hw => run_first P (by rcases hw with rfl | rfl <;> rfl) (fun j hj => ?_)) (fun m d hmd => ?_) g5
          (fun m hm' x y hT => (g7 x y).2 (.inr ⟨m, hm', hT⟩))
        · obtain ⟨x', hx', _⟩ := g4 j _ (List.getElem?_eq_getElem (by omega))
          exact ⟨x', hx'⟩
        · obtain ⟨x', hx', hox⟩ := g4 m d hmd
          have := mem_len hmd
          exact ⟨x', by simp [cellVals, (by omega : m < rows.length * inf.size), hx'], hox⟩
  · exact h.fail.elim
end
end Go.Proofs.YtmihpclfdicfkaaDoor.Ab

namespace Go.Proofs.YtmihpclfdicfkaaDoor.Ab
theorem freeze_facts {w : World} {b : Nat} {cs : Array Value} {t : TypeId} {lo hi : Nat} (hb : w.heap[b]? = some (.cells cs t (lo, hi))) (hc : lo = hi ∨ cs.size ≤ lo) :
    (w.freeze ⟨b, cs.size, none⟩ 1).heap.size = w.heap.size ∧ (∀ x, x ≠ b → (w.freeze ⟨b, cs.size, none⟩ 1).heap[x]? = w.heap[x]?) ∧
    (∀ x y, (w.freeze ⟨b, cs.size, none⟩ 1).cell? (at_ x y) = w.cell? (at_ x y) ∧ (w.freeze ⟨b, cs.size, none⟩ 1).frz? (at_ x y) = w.frz? (at_ x y)) ∧
    ((w.freeze ⟨b, cs.size, none⟩ 1).os = w.os ∧ (w.freeze ⟨b, cs.size, none⟩ 1).output = w.output) := by
  have hoth : ∀ x, x ≠ b → (w.freeze ⟨b, cs.size, none⟩ 1).heap[x]? = w.heap[x]? := by
    intro x hx
    simp only [World.freeze, if_neg Nat.one_ne_zero, Array.getElem?_modify]
    rw [if_neg (fun e => hx e.symm)]
  have hsame : ∃ lo' hi', (lo' = hi' ∨ cs.size ≤ lo') ∧ (w.freeze ⟨b, cs.size, none⟩ 1).heap[b]? = some (.cells cs t (lo', hi')) := by
    simp only [World.freeze, if_neg Nat.one_ne_zero, Array.getElem?_modify, if_true, hb, Option.map_some]
    by_cases e : lo = hi
    · exact ⟨cs.size, cs.size + 1, .inr (Nat.le_refl _), by simp [e]⟩
    · exact ⟨min lo cs.size, max hi (cs.size + 1), .inr (by omega), by simp [e]⟩
  refine ⟨by simp [World.freeze], hoth, fun x y => ?_, by simp [World.freeze]⟩
  by_cases hx : x = b
  · subst hx
    obtain ⟨lo', hi', h1, h2⟩ := hsame
    refine ⟨?_, ?_⟩
    · unfold World.cell?; rw [h2, hb]
    · rw [frz_cells (a := at_ x y) h2 h1, frz_cells (a := at_ x y) hb hc]
  · exact keep_of_heap (hoth x hx) y
section
variable {P : Program} {c : Ctx} {g : Gh} {w : World} {base : Nat} {e : Env}
theorem op_mark (hi : HInv c g e.h w) {t el : TypeId} {x : A} {v : Value} {wr : Wr} (ht : P.underlying t = some (.slice el)) (he : P.underlying el = some (.int .u8)) (hx : RA g e.h w x v)
    (h : Out e (markA x) wr) : OpOk P c g e.h w base (convert t t v) wr := by
  unfold markA at h
  split at h
  · rename_i m
    obtain ⟨o, ho, h2⟩ := h.rh
    split at h2
    · rename_i ver k sz rows
      split at h2
      · rename_i hcond
        obtain ⟨hsz, hne⟩ := hcond
        rw [h2.ret]
        cases hx with | sl _ hn h1 => ?_
        have hro : Own w g.Fz (k + 1) (g.ν m) (.slc sz rows) (g.F m) := hi.obj m _ ho
        have hro0 := hro
        unfold Own at hro
        rcases hro with ⟨_, e1, _⟩ | ⟨b, o, cap, T, e1, g1, g2, g3, g4, g5, g6, g7⟩
        · exact absurd e1 hne
        · have hpos : 0 < rows.length := List.length_pos_iff.2 hne
          have hcs : 0 < cap * sz := Nat.mul_pos (by omega) hsz
          obtain ⟨⟨u, hu⟩, hf⟩ := g2 0 hcs
          have hblk : ∃ cs t' lo hi', w.heap[b]? = some (.cells cs t' (lo, hi')) ∧ (lo = hi' ∨ cs.size ≤ lo) := by
            unfold World.cell? at hu
            unfold World.frz? at hf
            split at hu
            · rename_i cs t' fr hh
              obtain ⟨lo, hi'⟩ := fr
              have hh : w.heap[b]? = some (.cells cs t' (lo, hi')) := hh
              simp only [hh] at hf
              refine ⟨cs, t', lo, hi', hh, ?_⟩
              simp at hf
              omega
            · cases hu
          obtain ⟨cs, t', lo, hi', hb, hc⟩ := hblk
          obtain ⟨f1, f2, f3, f4⟩ := freeze_facts hb hc
          have hrun : (convert t t (g.ν m)).run P w = .ok (g.ν m) (w.freeze ⟨b, cs.size, none⟩ 1) := by
            rw [e1]
            have hsh : w.shape? b = some (t', cs.size) := by unfold World.shape?; rw [hb]
            simp [convert, run_underlying ht, run_underlying he, markStringish, hsh]
          have hTb : g.F m b o := (g7 _ _).2 (.inl ⟨rfl, Nat.le_refl _, by omega⟩)
          have hstep := mkStep (g' := g) (h' := updF e.h [(m, some (.arr (ver + 1) k sz rows))]) (w' := w.freeze ⟨b, cs.size, none⟩ 1) hi (fun n => n = m) f4 (by rw [f1]; exact Nat.le_refl _)
            (fun n hn' => ⟨by have : n ≠ m := hn'; simp [updF1, this], fun _ => rfl⟩) (fun n h => h) (fun n _ => rfl)
            (fun x hx hT => f2 x (fun e => by subst e; exact hT o ⟨m, _, rfl, ho, hTb⟩))
            (fun x y _ _ => f3 x y)
            (fun x y h => h) (fun x y h => .inl h)
            (fun n ver' k' sz' rows' hn' _ hh => by
              have hn2 : n = m := hn'
              subst hn2
              simp only [updF1, if_pos, Option.some.injEq, O.arr.injEq] at hh
              obtain ⟨rfl, rfl, rfl, rfl⟩ := hh
              exact ⟨ver, k, rows, ho, by omega⟩)
            (fun ex n o' hn' ho' => by
              have hn2 : n = m := hn'
              subst hn2
              simp only [updF1, if_pos, Option.some.injEq] at ho'
              subst ho'
              exact ⟨hn, Own.mono (fun _ _ h => h) (fun x y _ => f3 x y) (k + 1) (fun x y _ => f3 x y) hro0⟩)
            (fun n o' hn' ho' x y hxy => by
              have hn2 : n = m := hn'
              subst hn2
              exact ⟨.inl ⟨n, _, rfl, ho, hxy⟩, by rw [f1]; exact hi.lt n _ ho x y hxy, (hi.mine n _ ho x y hxy).2⟩)
            (fun n n' o1 o2 hn1 hn2 _ _ hne => absurd ((show n = m from hn1).trans (show n' = m from hn2).symm) hne)
          exact ⟨_, g, _, hrun, hstep.1, hstep.2, .sl m hn h1, fun n h => .inl h⟩
      · exact h2.fail.elim
    · exact h2.fail.elim
  · exact h.fail.elim
end
end Go.Proofs.YtmihpclfdicfkaaDoor.Ab
