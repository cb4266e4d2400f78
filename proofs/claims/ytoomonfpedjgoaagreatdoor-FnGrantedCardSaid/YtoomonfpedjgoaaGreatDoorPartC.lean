/-
  A part of a proof about the given program; what is proved is said where each theorem stands.
-/
import Derived.Test.YtoomonfpedjgoaaGreatDoorFrameA
import Derived.Test.YtoomonfpedjgoaaGreatDoorFrameB
import Derived.Test.YtoomonfpedjgoaaGreatDoorFrameC
import Derived.Test.YtoomonfpedjgoaaGreatDoorFrameD
import Derived.Test.YtoomonfpedjgoaaGreatDoorFrameE
import Derived.Test.YtoomonfpedjgoaaGreatDoorHead
import Derived.Test.YtoomonfpedjgoaaGreatDoorShelf
import Derived.Test.YtoomonfpedjgoaaGreatDoorPartA
import Derived.Test.YtoomonfpedjgoaaGreatDoorPartB
namespace Go.Proofs
end Go.Proofs
set_option linter.unusedSimpArgs false
set_option linter.unusedVariables false
set_option maxRecDepth 100000
set_option maxHeartbeats 2000000
namespace Go.Proofs.YtoomonfpedjgoaaGreatDoor.Ab
open Go.Proofs
variable {GG : GV}
theorem idxF_find {α : Type} {p : α → Bool} {l : List α} (h : l.any p = true) : ∃ (k : Nat) (t : α), idxF p l = k ∧ l[k]? = some t ∧ p t = true ∧ l.find? p = some t := by
 unfold idxF
 cases hf : l.findIdx? p with
 | none =>
  rw [List.findIdx?_eq_none_iff] at hf
  rw [List.any_eq_true] at h
  obtain ⟨x, hx, hp⟩ := h
  rw [hf x hx] at hp; cases hp
 | some i =>
  rw [List.findIdx?_eq_some_iff_getElem] at hf
  obtain ⟨h1, h2, h3⟩ := hf
  refine ⟨i, _, rfl, List.getElem?_eq_getElem h1, h2, ?_⟩
  rw [List.find?_eq_some_iff_getElem]
  exact ⟨h2, i, h1, rfl, fun j hj => by simpa using h3 j hj⟩
theorem s_l08Over_ok (t : GToken) (now : Int) : Valid PP GG 94 [.agg t.c, .d (.int .i64 now)] (.d (.bool (overB t.fEnds now))) [none, none] := by
 refine cv Tryz.func94 [.d (.bool (overB t.fEnds now))] ?_
 have hr : overB t.fEnds now = (!decide (t.fEnds = 0) && decide (t.fEnds ≤ now)) := rfl
 have q : (t.fEnds != 0) = !decide (t.fEnds = 0) := rfl
 have hind := ind_strs t.fNames
 generalize overB t.fEnds now = r at *
 obtain ⟨t1, t2, t3, t4, e, t6, t7⟩ := t
 dsimp only at q hr
 cases h0 : decide (e = 0)
 ·rw [h0] at hr q
  simp only [Bool.not_false, Bool.true_and] at hr q
  subst hr
  exact u_20 q
 ·rw [h0] at hr q
  simp only [Bool.not_true, Bool.false_and] at hr q
  subst hr
  exact u_20 q
theorem isOver_ok (e now : Int) : Valid PP GG 78 [.d (.int .i64 e), .d (.int .i64 now)] (.d (.bool (overB e now))) [none, none] := by
 refine cv Tryz.func78 [.d (.bool (overB e now))] ?_
 have hr : overB e now = (!decide (e = 0) && decide (e ≤ now)) := rfl
 have q : (e != 0) = !decide (e = 0) := rfl
 generalize overB e now = r at *
 cases h0 : decide (e = 0)
 ·rw [h0] at hr q
  simp only [Bool.not_false, Bool.true_and] at hr q
  subst hr
  exact u_20 q
 ·rw [h0] at hr q
  simp only [Bool.not_true, Bool.false_and] at hr q
  subst hr
  exact u_20 q
theorem s_FindToken_ok [MaxL GG] (f : GForest) (id : Int) (hf : fitF f) : Valid PP GG 10 [.agg f.c, .d (.int .i64 id)] (.tup [.agg (findT f id).o, .d (.bool (forestB f && hasTok f id))]) [none, none] := by
 refine cv Tryz.func10 [.agg (findT f id).o, .d (.bool (forestB f && hasTok f id))] ?_
 have cf := s_ForestOk_ok (GG := GG) f hf
 have cat := s_l08At_ok (GG := GG) f id hf.1
 have hno : decide (idxF (fun t => decide (t.fId = id)) f.fTokens < 0) = !hasTok f id := idxF_none _ _
 have hF : findT f id = if forestB f then (f.fTokens.find? fun t => decide (t.fId = id)).getD zTok else zTok := rfl
 have hfi := fun (h : hasTok f id = true) => idxF_find (p := fun t : GToken => decide (t.fId = id)) (l := f.fTokens) h
 have hft := hf.2
 obtain ⟨a⟩ := f
 dsimp only at cf cat hno hF hfi hft
 generalize findT ⟨a⟩ id = F at *
 generalize hasTok ⟨a⟩ id = H at *
 generalize forestB ⟨a⟩ = B at *
 cases B
 ·simp only [Bool.false_eq_true, if_false] at hF
  subst hF
  repeat' (first | refine W_seq ?_ | refine W_skip ?_ | refine W_block ?_ | refine W_exit ?_ | refine pick_pos rfl ?_ | refine pick_neg rfl ?_ | ((first | refine W_regP fun K hK => ?_ | refine W_regPD fun K hK => ?_ | refine W_ret ?_ | with_reducible refine callQ (cf) ?_); simp [Fin, zTok, strsD]) | (with_reducible refine hK _ ?_; clear hK K) | (with_reducible refine goL_split (fun h => ?_) (fun h => ?_) <;> first | (exfalso; simp at h; first | done | omega | contradiction) | ((try simp at h); simp [zTok, strsD])) | with_reducible refine And.intro ?_ ?_ | with_reducible exact okay_rfl rfl | with_reducible assumption | (refine W_cond rfl (fun h => ?_) (fun h => ?_) <;> first | (exfalso; simp at h; first | done | omega | contradiction) | (exfalso; simp_all; done) | (try simp at h)) | omega)
 simp only [if_true] at hF
 cases H
 ·simp only [Bool.not_false] at hno
  have hn : a.find? (fun t => decide (t.fId = id)) = none := by
   rw [List.find?_eq_none]
   have h2 := idxF_none (fun t : GToken => decide (t.fId = id)) a
   rw [hno] at h2
   intro x hx hp
   have : a.any (fun t => decide (t.fId = id)) = true := List.any_eq_true.2 ⟨x, hx, hp⟩
   rw [this] at h2; cases h2
  rw [hn] at hF
  simp only [Option.getD_none] at hF
  subst hF
  repeat' (first | refine W_seq ?_ | refine W_skip ?_ | refine W_block ?_ | refine W_exit ?_ | refine pick_pos rfl ?_ | refine pick_neg rfl ?_ | ((first | refine W_regP fun K hK => ?_ | refine W_regPD fun K hK => ?_ | refine W_ret ?_ | with_reducible refine callQ (cf) ?_ | with_reducible refine callQ (cat) ?_); simp [Fin, zTok, strsD, hno]) | (with_reducible refine hK _ ?_; clear hK K) | (with_reducible refine goL_split (fun h => ?_) (fun h => ?_) <;> first | (exfalso; simp at h; first | done | omega | contradiction) | ((try simp at h); simp [zTok, strsD, hno])) | with_reducible refine And.intro ?_ ?_ | with_reducible exact okay_rfl rfl | with_reducible assumption | (refine W_cond rfl (fun h => ?_) (fun h => ?_) <;> first | (exfalso; simp at h; first | done | omega | contradiction) | (exfalso; simp_all; done) | (try simp at h)) | omega)
 ·obtain ⟨k, t, hk, ht, _, hfd⟩ := hfi rfl
  rw [hfd] at hF
  simp only [Option.getD_some] at hF
  simp only [Bool.not_true] at hno
  rw [hk] at cat hno
  have hkl := (List.getElem?_eq_some_iff.1 ht).1
  have cc := s_l08CopyToken_ok (GG := GG) t (hft t (List.mem_of_getElem? ht))
  subst hF
  exact u_29 ht (Z3 cf cat cc)
def addL (b : GBook) (l : GLease) : Bool := bookB b && bookB ⟨b.fLeases ++ [l]⟩
def addBk (b : GBook) (l : GLease) : GBook := if addL b l then ⟨b.fLeases ++ [l]⟩ else b
theorem fitB_app {b : GBook} {l : GLease} (h : bookB b = true) (hf : fitB b) (hl : l.fPath.length ≤ 1048576) : fitB ⟨b.fLeases ++ [l]⟩ := by
 unfold bookB at h
 simp only [Bool.and_eq_true, decide_eq_true_eq] at h
 refine ⟨by simp; omega, fun t ht => ?_⟩
 rcases List.mem_append.1 ht with ht | ht
 ·exact hf.2 t ht
 ·simp at ht; subst ht; exact hl
theorem s_AddLease_ok [MaxL GG] (b : GBook) (l : GLease) (hf : fitB b) (hl : l.fPath.length ≤ 1048576) : Valid PP GG 95 [.agg b.c, .agg l.c] (.tup [.agg (addBk b l).o, .d (.bool (addL b l))]) [none, none] := by
 refine cv Tryz.func95 [.agg (addBk b l).o, .d (.bool (addL b l))] ?_
 have cb := s_BookOk_ok (GG := GG) b hf
 have hfo := fun h => s_BookOk_ok (GG := GG) ⟨b.fLeases ++ [l]⟩ (fitB_app h hf hl)
 have ccp := s_l09Copy_ok (GG := GG) b.fLeases (by have := hf.1; omega)
 have hA : addL b l = (bookB b && bookB ⟨b.fLeases ++ [l]⟩) := rfl
 have hB : addBk b l = if addL b l then ⟨b.fLeases ++ [l]⟩ else b := rfl
 have hbl := hf.1
 obtain ⟨a⟩ := b
 dsimp only at cb hfo ccp hA hB hbl
 have hrl := rLease_app a [l]
 rw [show rLease [l] = [l.row] from rfl] at hrl
 have hi1 := ind_rLease a
 generalize addL ⟨a⟩ l = AL at *
 generalize addBk ⟨a⟩ l = AB at *
 cases hb : bookB ⟨a⟩ with
 | false =>
  rw [hb] at cb hA
  simp only [Bool.false_and] at hA
  subst hA
  simp only [Bool.false_eq_true, if_false] at hB
  subst hB
  exact u_60 (Z2 cb ccp)
 | true =>
  rw [hb] at cb hA
  simp only [Bool.true_and] at hA
  have co := hfo hb
  dsimp only [GBook.c] at co
  rw [← hA, hrl] at co
  cases AL
  ·simp only [Bool.false_eq_true, if_false] at hB
   subst hB
   exact u_60 (Z3 cb ccp co)
  ·simp only [if_true] at hB
   subst hB
   exact u_54 hrl (Z3 cb ccp co)
theorem addLease_ok [MaxL GG] (b : GBook) (l : GLease) (hf : fitB b) (hl : l.fPath.length ≤ 1048576) (hb : bookB b = true) : Valid PP GG 119 [.agg b.c, .agg l.c] (.tup [.agg (addBk b l).o, .d (.bool (addL b l))]) [none, none] := by
 refine cv Tryz.func119 [.agg (addBk b l).o, .d (.bool (addL b l))] ?_
 have co := isBook_ok (GG := GG) ⟨b.fLeases ++ [l]⟩ (fitB_app hb hf hl)
 have ccp := cloneBook_ok (GG := GG) b.fLeases (by have := hf.1; omega)
 have hA : addL b l = (bookB b && bookB ⟨b.fLeases ++ [l]⟩) := rfl
 have hB : addBk b l = if addL b l then ⟨b.fLeases ++ [l]⟩ else b := rfl
 have hbl := hf.1
 rw [hb, Bool.true_and] at hA
 obtain ⟨a⟩ := b
 dsimp only at co ccp hA hB hbl
 have hrl := rLease_app a [l]
 rw [show rLease [l] = [l.row] from rfl] at hrl
 have hi1 := ind_rLease a
 dsimp only [GBook.c] at co
 rw [← hA, hrl] at co
 generalize addL ⟨a⟩ l = AL at *
 generalize addBk ⟨a⟩ l = AB at *
 cases AL
 ·simp only [Bool.false_eq_true, if_false] at hB
  subst hB
  exact u_60 (Z2 ccp co)
 ·simp only [if_true] at hB
  subst hB
  exact u_54 hrl (Z2 ccp co)
def tokLive (w : GWorld) (tok : Int) : Bool := hasTok w.fForest tok && !overB (findT w.fForest tok).fEnds w.fNow
def newL (w : GWorld) (tok : Int) (path : List UInt8) (ttl limit : Int) : GLease := ⟨w.fNext, tok, path, w.fNow, w.fNow + ttl, w.fNow + limit⟩
def grantOk (w : GWorld) (tok ttl limit : Int) : Bool := tokLive w tok && !decide (w.fNext = 1000000000) && decide (limit ≤ 1000000000) && inB ttl 1 limit
def grantB (w : GWorld) (tok : Int) (path : List UInt8) (ttl limit : Int) : Bool := worldB w && grantOk w tok ttl limit && addL w.fBook (newL w tok path ttl limit)
def grantW (w : GWorld) (tok : Int) (path : List UInt8) (ttl limit : Int) : GWorld := if grantB w tok path ttl limit then { w with fBook := ⟨w.fBook.fLeases ++ [newL w tok path ttl limit]⟩, fNext := w.fNext + 1 } else w
def grantI (w : GWorld) (tok : Int) (path : List UInt8) (ttl limit : Int) : Int := if grantB w tok path ttl limit then w.fNext else 0
theorem world_nums {w : GWorld} (h : worldB w = true) : (0 ≤ w.fNow ∧ w.fNow ≤ 1000000000) ∧ (1 ≤ w.fNext ∧ w.fNext ≤ 1000000000) ∧ (0 ≤ w.fLost ∧ w.fLost ≤ 1000000000) := by
 unfold worldB at h
 simp only [Bool.and_eq_true] at h
 exact ⟨inB_true h.1.1.1.1.1.1.1.1.1, inB_true h.1.1.1.1.1.1.1.1.2, inB_true h.1.1.1.1.1.1.1.2⟩
theorem s_GrantLease_ok [MaxL GG] (w : GWorld) (tok : Int) (path : List UInt8) (ttl limit : Int) (hf : fitW w) (hp : path.length ≤ 1048576) :
  Valid PP GG 47 [.agg w.c, .d (.int .i64 tok), .d (.str path), .d (.int .i64 ttl), .d (.int .i64 limit)] (.tup [.agg (grantW w tok path ttl limit).o, .d (.int .i64 (grantI w tok path ttl limit))]) [none, none, none, none, none] := by
 refine cv Tryz.func47 [.agg (grantW w tok path ttl limit).o, .d (.int .i64 (grantI w tok path ttl limit))] ?_
 have cw := s_WorldOk_ok (GG := GG) w hf
 have ccp := s_l16Copy_ok (GG := GG) w hf
 have cft := s_FindToken_ok (GG := GG) w.fForest tok hf.1
 have cov := s_l08Over_ok (GG := GG) (findT w.fForest tok) w.fNow
 have cin : Valid PP GG 23 [.d (.int .i64 ttl), .d (.int .i64 1), .d (.int .i64 limit)] (.d (.bool (inB ttl 1 limit))) [none, none, none] := l01In_ok _ _ _
 have cad := s_AddLease_ok (GG := GG) w.fBook (newL w tok path ttl limit) hf.2.1 hp
 have hnum := fun h => world_nums (w := w) h
 have hfb := fun h => world_forest (w := w) h
 have hB : grantB w tok path ttl limit = (worldB w && (hasTok w.fForest tok && !overB (findT w.fForest tok).fEnds w.fNow && !decide (w.fNext = 1000000000) && decide (limit ≤ 1000000000) && inB ttl 1 limit) && addL w.fBook (newL w tok path ttl limit)) := rfl
 have hW : grantW w tok path ttl limit = if grantB w tok path ttl limit then { w with fBook := ⟨w.fBook.fLeases ++ [newL w tok path ttl limit]⟩, fNext := w.fNext + 1 } else w := rfl
 have hI : grantI w tok path ttl limit = if grantB w tok path ttl limit then w.fNext else 0 := rfl
 have hAB : addBk w.fBook (newL w tok path ttl limit) = if addL w.fBook (newL w tok path ttl limit) then ⟨w.fBook.fLeases ++ [newL w tok path ttl limit]⟩ else w.fBook := rfl
 have hNL : newL w tok path ttl limit = ⟨w.fNext, tok, path, w.fNow, w.fNow + ttl, w.fNow + limit⟩ := rfl
 obtain ⟨now, next, lost, ⟨tk⟩, ⟨ls⟩, ⟨us, ff, fm⟩, ⟨js⟩, ow⟩ := w
 dsimp only at cft cov cad hnum hfb hB hW hI hAB hNL
 have hi1 := ind_rToken tk
 have hi2 := ind_rLease ls
 have hi3 := ind_rUser us
 have hi4 := ind_rJob js
 have hi5 := ind_rOwned ow
 generalize grantW ⟨now, next, lost, ⟨tk⟩, ⟨ls⟩, ⟨us, ff, fm⟩, ⟨js⟩, ow⟩ tok path ttl limit = GW at *
 generalize grantI ⟨now, next, lost, ⟨tk⟩, ⟨ls⟩, ⟨us, ff, fm⟩, ⟨js⟩, ow⟩ tok path ttl limit = GI at *
 generalize grantB ⟨now, next, lost, ⟨tk⟩, ⟨ls⟩, ⟨us, ff, fm⟩, ⟨js⟩, ow⟩ tok path ttl limit = GB at *
 generalize newL ⟨now, next, lost, ⟨tk⟩, ⟨ls⟩, ⟨us, ff, fm⟩, ⟨js⟩, ow⟩ tok path ttl limit = NL at *
 generalize hWB : worldB ⟨now, next, lost, ⟨tk⟩, ⟨ls⟩, ⟨us, ff, fm⟩, ⟨js⟩, ow⟩ = WB at *
 cases WB
 ·simp only [Bool.false_and] at hB
  subst hB
  simp only [Bool.false_eq_true, if_false] at hW hI
  subst hW hI
  exact u_31 (Z2 cw ccp)
 have hnum := hnum rfl
 rw [hfb rfl, Bool.true_and] at cft
 simp only [Bool.true_and] at hB
 generalize hasTok ⟨tk⟩ tok = H at *
 generalize overB (findT ⟨tk⟩ tok).fEnds now = O at *
 have hit := ind_strs (findT ⟨tk⟩ tok).fNames
 generalize findT ⟨tk⟩ tok = T at *
 obtain ⟨t1, t2, t3, t4, t5, t6, t7⟩ := T
 dsimp only at hit
 have hN : (next == 1000000000) = decide (next = 1000000000) := rfl
 have hM : decide (1000000000 < limit) = !decide (limit ≤ 1000000000) := by rw [← decide_not]; exact decide_eq_decide.2 (by omega)
 generalize decide (next = 1000000000) = N at *
 have hinl : inB ttl 1 limit = true → 1 ≤ ttl ∧ ttl ≤ limit := inB_true
 generalize inB ttl 1 limit = I at *
 by_cases hml : limit ≤ 1000000000
 rotate_left
 ·rw [decide_eq_false hml] at hB
  simp only [Bool.and_false, Bool.false_and] at hB
  subst hB
  simp only [Bool.false_eq_true, if_false] at hW hI
  subst hW hI
  have hlt : 1000000000 < limit := by omega
  cases H
  ·exact u_31 (Z3 cw ccp cft)
  ·cases O
   ·cases N
    ·exact u_29 (Y2 hN hlt) (Z4 cw ccp cft cov)
    ·exact u_29 hN (Z4 cw ccp cft cov)
   ·exact u_31 (Z4 cw ccp cft cov)
 have hnl : ¬ 1000000000 < limit := by omega
 rw [decide_eq_true hml, Bool.and_true] at hB
 cases H
 ·simp only [Bool.false_and] at hB
  subst hB
  simp only [Bool.false_eq_true, if_false] at hW hI
  subst hW hI
  exact u_31 (Z3 cw ccp cft)
 cases O
 rotate_left
 ·simp only [Bool.not_true, Bool.and_false, Bool.false_and] at hB
  subst hB
  simp only [Bool.false_eq_true, if_false] at hW hI
  subst hW hI
  exact u_31 (Z4 cw ccp cft cov)
 cases N
 rotate_left
 ·simp only [Bool.not_true, Bool.and_false, Bool.false_and] at hB
  subst hB
  simp only [Bool.false_eq_true, if_false] at hW hI
  subst hW hI
  exact u_29 hN (Z4 cw ccp cft cov)
 cases I
 ·simp only [Bool.and_false, Bool.false_and] at hB
  subst hB
  simp only [Bool.false_eq_true, if_false] at hW hI
  subst hW hI
  exact u_29 (Y2 hN hnl) (Z5 cw ccp cft cov cin)
 have hinl := hinl rfl
 simp only [Bool.not_false, Bool.and_true, Bool.true_and] at hB
 subst hB
 have hw1 : IntKind.i64.wrap (now + ttl) = now + ttl := wrap_id (by omega) (by omega)
 have hw2 : IntKind.i64.wrap (now + limit) = now + limit := wrap_id (by omega) (by omega)
 have hw3 : IntKind.i64.wrap (next + 1) = next + 1 := wrap_id (by omega) (by omega)
 subst hNL
 generalize addBk ⟨ls⟩ ⟨next, tok, path, now, now + ttl, now + limit⟩ = AB at *
 obtain ⟨ab⟩ := AB
 have hi6 := ind_rLease ab
 cases hAL : addL ⟨ls⟩ ⟨next, tok, path, now, now + ttl, now + limit⟩ with
 | false =>
  rw [hAL] at hAB hW hI cad
  simp only [Bool.false_eq_true, if_false] at hAB hW hI
  cases hAB
  subst hW hI
  exact u_29 (Y4 hN hnl hw1 hw2) (Z6 cw ccp cft cov cin cad)
 | true =>
  rw [hAL] at hAB hW hI cad
  simp only [if_true] at hAB hW hI
  cases hAB
  subst hW hI
  exact u_29 (Y5 hN hnl hw1 hw2 hw3) (Z6 cw ccp cft cov cin cad)
theorem grantLease_ok [MaxL GG] (w : GWorld) (tok : Int) (path : List UInt8) (ttl limit : Int) (hf : fitW w) (hp : path.length ≤ 1048576) (hWB : worldB w = true) :
  Valid PP GG 64 [.agg w.c, .d (.int .i64 tok), .d (.str path), .d (.int .i64 ttl), .d (.int .i64 limit)] (.tup [.agg (grantW w tok path ttl limit).o, .d (.int .i64 (grantI w tok path ttl limit))]) [none, none, none, none, none] := by
 refine cv Tryz.func64 [.agg (grantW w tok path ttl limit).o, .d (.int .i64 (grantI w tok path ttl limit))] ?_
 have ccp := cloneWorld_ok (GG := GG) w hf
 have cft := tokenIndex_ok (GG := GG) w.fForest tok hf.1.1
 have hno : decide (idxF (fun t => decide (t.fId = tok)) w.fForest.fTokens < 0) = !hasTok w.fForest tok := idxF_none _ _
 have hfi := fun (h : hasTok w.fForest tok = true) => idxF_find (p := fun t : GToken => decide (t.fId = tok)) (l := w.fForest.fTokens) h
 have hFT : findT w.fForest tok = if forestB w.fForest then (w.fForest.fTokens.find? fun t => decide (t.fId = tok)).getD zTok else zTok := rfl
 have cin : Valid PP GG 34 [.d (.int .i64 ttl), .d (.int .i64 1), .d (.int .i64 limit)] (.d (.bool (inB ttl 1 limit))) [none, none, none] := within_ok _ _ _
 have cad := addLease_ok (GG := GG) w.fBook (newL w tok path ttl limit) hf.2.1 hp (world_book hWB)
 have hnum := world_nums hWB
 have hfb := world_forest hWB
 rw [if_pos hfb] at hFT
 have hB : grantB w tok path ttl limit = ((hasTok w.fForest tok && !overB (findT w.fForest tok).fEnds w.fNow && !decide (w.fNext = 1000000000) && decide (limit ≤ 1000000000) && inB ttl 1 limit) && addL w.fBook (newL w tok path ttl limit)) := by
  have : grantB w tok path ttl limit = (worldB w && (hasTok w.fForest tok && !overB (findT w.fForest tok).fEnds w.fNow && !decide (w.fNext = 1000000000) && decide (limit ≤ 1000000000) && inB ttl 1 limit) && addL w.fBook (newL w tok path ttl limit)) := rfl
  rw [this, hWB, Bool.true_and]
 have hW : grantW w tok path ttl limit = if grantB w tok path ttl limit then { w with fBook := ⟨w.fBook.fLeases ++ [newL w tok path ttl limit]⟩, fNext := w.fNext + 1 } else w := rfl
 have hI : grantI w tok path ttl limit = if grantB w tok path ttl limit then w.fNext else 0 := rfl
 have hAB : addBk w.fBook (newL w tok path ttl limit) = if addL w.fBook (newL w tok path ttl limit) then ⟨w.fBook.fLeases ++ [newL w tok path ttl limit]⟩ else w.fBook := rfl
 have hNL : newL w tok path ttl limit = ⟨w.fNext, tok, path, w.fNow, w.fNow + ttl, w.fNow + limit⟩ := rfl
 obtain ⟨now, next, lost, ⟨tk⟩, ⟨ls⟩, ⟨us, ff, fm⟩, ⟨js⟩, ow⟩ := w
 dsimp only at cft cad hnum hfb hB hW hI hAB hNL hno hfi hFT
 have hi1 := ind_rToken tk
 have hi2 := ind_rLease ls
 have hi3 := ind_rUser us
 have hi4 := ind_rJob js
 have hi5 := ind_rOwned ow
 generalize grantW ⟨now, next, lost, ⟨tk⟩, ⟨ls⟩, ⟨us, ff, fm⟩, ⟨js⟩, ow⟩ tok path ttl limit = GW at *
 generalize grantI ⟨now, next, lost, ⟨tk⟩, ⟨ls⟩, ⟨us, ff, fm⟩, ⟨js⟩, ow⟩ tok path ttl limit = GI at *
 generalize grantB ⟨now, next, lost, ⟨tk⟩, ⟨ls⟩, ⟨us, ff, fm⟩, ⟨js⟩, ow⟩ tok path ttl limit = GB at *
 generalize newL ⟨now, next, lost, ⟨tk⟩, ⟨ls⟩, ⟨us, ff, fm⟩, ⟨js⟩, ow⟩ tok path ttl limit = NL at *
 generalize hasTok ⟨tk⟩ tok = H at *
 cases H
 ·simp only [Bool.false_and] at hB
  subst hB
  simp only [Bool.false_eq_true, if_false] at hW hI
  subst hW hI
  simp only [Bool.not_false] at hno
  exact u_29 hno (Z2 ccp cft)
 obtain ⟨k, t, hk, ht, _, hfd⟩ := hfi rfl
 rw [hfd] at hFT
 simp only [Option.getD_some] at hFT
 rw [hFT] at hB
 simp only [Bool.not_true] at hno
 rw [hk] at cft hno
 have hkl := (List.getElem?_eq_some_iff.1 ht).1
 clear hfi hfd hFT hk
 obtain ⟨t1, t2, t3, t4, t5, t6, t7⟩ := t
 dsimp only at hB
 have cov := isOver_ok (GG := GG) t5 now
 generalize overB t5 now = O at *
 simp only [Bool.true_and] at hB
 have hN : (next == 1000000000) = decide (next = 1000000000) := rfl
 have hM : decide (1000000000 < limit) = !decide (limit ≤ 1000000000) := by rw [← decide_not]; exact decide_eq_decide.2 (by omega)
 generalize decide (next = 1000000000) = N at *
 have hinl : inB ttl 1 limit = true → 1 ≤ ttl ∧ ttl ≤ limit := inB_true
 generalize inB ttl 1 limit = I at *
 cases O
 rotate_left
 ·simp only [Bool.not_true, Bool.and_false, Bool.false_and] at hB
  subst hB
  simp only [Bool.false_eq_true, if_false] at hW hI
  subst hW hI
  exact u_29 ht (Z3 ccp cft cov)
 cases N
 rotate_left
 ·simp only [Bool.not_true, Bool.and_false, Bool.false_and] at hB
  subst hB
  simp only [Bool.false_eq_true, if_false] at hW hI
  subst hW hI
  exact u_29 (Y2 ht hN) (Z3 ccp cft cov)
 cases I
 ·simp only [Bool.and_false, Bool.false_and] at hB
  subst hB
  simp only [Bool.false_eq_true, if_false] at hW hI
  subst hW hI
  exact u_29 (Y2 ht hN) (Z4 ccp cft cov cin)
 have hinl := hinl rfl
 by_cases hml : limit ≤ 1000000000
 rotate_left
 ·rw [decide_eq_false hml] at hB
  simp only [Bool.and_false, Bool.false_and] at hB
  subst hB
  simp only [Bool.false_eq_true, if_false] at hW hI
  subst hW hI
  have hlt : 1000000000 < limit := by omega
  exact u_29 (Y3 ht hN hlt) (Z4 ccp cft cov cin)
 have hnl : ¬ 1000000000 < limit := by omega
 rw [decide_eq_true hml] at hB
 simp only [Bool.not_false, Bool.and_true, Bool.true_and] at hB
 subst hB
 have hw1 : IntKind.i64.wrap (now + ttl) = now + ttl := wrap_id (by omega) (by omega)
 have hw2 : IntKind.i64.wrap (now + limit) = now + limit := wrap_id (by omega) (by omega)
 have hw3 : IntKind.i64.wrap (next + 1) = next + 1 := wrap_id (by omega) (by omega)
 subst hNL
 generalize addBk ⟨ls⟩ ⟨next, tok, path, now, now + ttl, now + limit⟩ = AB at *
 obtain ⟨ab⟩ := AB
 have hi6 := ind_rLease ab
 cases hAL : addL ⟨ls⟩ ⟨next, tok, path, now, now + ttl, now + limit⟩ with
 | false =>
  rw [hAL] at hAB hW hI cad
  simp only [Bool.false_eq_true, if_false] at hAB hW hI
  cases hAB
  subst hW hI
  exact u_29 (Y5 ht hN hnl hw1 hw2) (Z5 ccp cft cov cin cad)
 | true =>
  rw [hAL] at hAB hW hI cad
  simp only [if_true] at hAB hW hI
  cases hAB
  subst hW hI
  exact u_29 (Y6 ht hN hnl hw1 hw2 hw3) (Z5 ccp cft cov cin cad)
theorem bl_irrefl (a : List UInt8) : Go.Op.bytesLess a a = false := by
 induction a with
 | nil => rfl
 | cons x a ih => simp [Go.Op.bytesLess, ih]
theorem bl_trans {a b c : List UInt8} : Go.Op.bytesLess a b = true → Go.Op.bytesLess b c = true → Go.Op.bytesLess a c = true := by
 induction a generalizing b c with
 | nil =>
  intro h1 h2
  cases b with
  | nil => simp [Go.Op.bytesLess] at h1
  | cons y b =>
   cases c with
   | nil => simp [Go.Op.bytesLess] at h2
   | cons z c => rfl
 | cons x a ih =>
  intro h1 h2
  cases b with
  | nil => simp [Go.Op.bytesLess] at h1
  | cons y b =>
   cases c with
   | nil => simp [Go.Op.bytesLess] at h2
   | cons z c =>
    simp only [Go.Op.bytesLess, Bool.or_eq_true, decide_eq_true_eq, Bool.and_eq_true, beq_iff_eq] at h1 h2 ⊢
    rcases h1 with h1 | ⟨rfl, h1⟩
    ·rcases h2 with h2 | ⟨rfl, h2⟩
     ·exact .inl (UInt8.lt_trans h1 h2)
     ·exact .inl h1
    ·rcases h2 with h2 | ⟨rfl, h2⟩
     ·exact .inl h2
     ·exact .inr ⟨rfl, ih h1 h2⟩
theorem bl_total {a b : List UInt8} (h : a ≠ b) : Go.Op.bytesLess a b = true ∨ Go.Op.bytesLess b a = true := by
 induction a generalizing b with
 | nil =>
  cases b with
  | nil => exact absurd rfl h
  | cons y b => exact .inl rfl
 | cons x a ih =>
  cases b with
  | nil => exact .inr rfl
  | cons y b =>
   simp only [Go.Op.bytesLess, Bool.or_eq_true, decide_eq_true_eq, Bool.and_eq_true, beq_iff_eq]
   by_cases hxy : x = y
   ·subst hxy
    rcases ih (b := b) (fun e => h (by rw [e])) with h1 | h1
    ·exact .inl (.inr ⟨rfl, h1⟩)
    ·exact .inr (.inr ⟨rfl, h1⟩)
   ·have hn : x.toNat ≠ y.toNat := fun e => hxy (UInt8.toNat_inj.1 e)
    rcases Nat.lt_or_gt_of_ne hn with h1 | h1
    ·exact .inl (.inl (UInt8.lt_iff_toNat_lt.2 h1))
    ·exact .inr (.inl (UInt8.lt_iff_toNat_lt.2 h1))
theorem bl_asymm {a b : List UInt8} (h : Go.Op.bytesLess a b = true) : Go.Op.bytesLess b a = false := by
 cases h2 : Go.Op.bytesLess b a with
 | false => rfl
 | true => have := bl_trans h h2; rw [bl_irrefl] at this; cases this
theorem cmp_cases (a b : List UInt8) : (Go.Op.bytesLess a b = true ∧ Lib.compareBytes a b = -1) ∨ (a = b ∧ Lib.compareBytes a b = 0) ∨ (Go.Op.bytesLess b a = true ∧ Lib.compareBytes a b = 1) := by
 induction a generalizing b with
 | nil =>
  cases b with
  | nil => exact .inr (.inl ⟨rfl, rfl⟩)
  | cons y b => exact .inl ⟨rfl, rfl⟩
 | cons x a ih =>
  cases b with
  | nil => exact .inr (.inr ⟨rfl, rfl⟩)
  | cons y b =>
   unfold Lib.compareBytes
   simp only [Go.Op.bytesLess, Bool.or_eq_true, decide_eq_true_eq, Bool.and_eq_true, beq_iff_eq]
   by_cases h1 : x < y
   ·rw [if_pos h1]; exact .inl ⟨.inl h1, rfl⟩
   ·rw [if_neg h1]
    by_cases h2 : y < x
    ·rw [if_pos h2]; exact .inr (.inr ⟨.inl h2, rfl⟩)
    ·rw [if_neg h2]
     have e : x = y := by
      have h1 : ¬ x.toNat < y.toNat := fun h => h1 (UInt8.lt_iff_toNat_lt.2 h)
      have h2 : ¬ y.toNat < x.toNat := fun h => h2 (UInt8.lt_iff_toNat_lt.2 h)
      exact UInt8.toNat_inj.1 (by omega)
     subst e
     rcases ih b with ⟨h3, h4⟩ | ⟨rfl, h4⟩ | ⟨h3, h4⟩
     ·exact .inl ⟨.inr ⟨rfl, h3⟩, h4⟩
     ·exact .inr (.inl ⟨rfl, h4⟩)
     ·exact .inr (.inr ⟨.inr ⟨rfl, h3⟩, h4⟩)
theorem cmp_neg (a b : List UInt8) : decide (Lib.compareBytes a b < 0) = Go.Op.bytesLess a b := by
 rcases cmp_cases a b with ⟨h1, h2⟩ | ⟨rfl, h2⟩ | ⟨h1, h2⟩
 ·rw [h2, h1]; rfl
 ·rw [h2, bl_irrefl]; rfl
 ·rw [h2, bl_asymm h1]; rfl
theorem cmp_zero (a b : List UInt8) : (Lib.compareBytes a b == 0) = (a == b) := by
 rcases cmp_cases a b with ⟨h1, h2⟩ | ⟨rfl, h2⟩ | ⟨h1, h2⟩
 ·rw [h2]; symm; rw [show ((-1 : Int) == 0) = false from rfl, beq_eq_false_iff_ne]; rintro rfl; rw [bl_irrefl] at h1; cases h1
 ·rw [h2]; simp
 ·rw [h2]; symm; rw [show ((1 : Int) == 0) = false from rfl, beq_eq_false_iff_ne]; rintro rfl; rw [bl_irrefl] at h1; cases h1
theorem Compare_ok (a b : List UInt8) : Valid PP GG 170 [.d (.str a), .d (.str b)] (.d (.int .i64 (Lib.compareBytes a b))) [none, none] := by
 refine lib_new [.str a, .str b] ⟨Tryz.f170, Tryz.func170, by kernel_rfl, by kernel_rfl⟩ fun w Fz args hG hFz hl hA => ?_
 have e : args = #[.string ⟨a.toArray⟩, .string ⟨b.toArray⟩] := by
  refine args_eq (l := [.string ⟨a.toArray⟩, .string ⟨b.toArray⟩]) hl fun i v hv => ?_
  match i, hv with
  | 0, hv => cases hv; exact shr_str (hA 0 _ rfl)
  | 1, hv => cases hv; exact shr_str (hA 1 _ rfl)
 subst e
 refine (Go.Proofs.YtoomonfpedjgoaaGreatDoor.Tryz.strings_Compare ⟨a.toArray⟩ ⟨b.toArray⟩ w).mono ?_
 rintro e w' ⟨rfl, rfl⟩
 exact ⟨_, Fz, fun _ _ => False, rfl, ⟨rfl, rfl⟩, Nat.le_refl _, fun _ _ => rfl, fun _ _ h => h, fun b o h => ⟨.inl h, hFz b o h⟩, .d _ _ _ (.int _ _) fun _ _ h => h, fun _ _ h => h.elim⟩
def lessN {α : Type} (key : α → List UInt8) (s : List UInt8) (l : List α) : Nat := (l.filter fun x => Go.Op.bytesLess (key x) s).length
theorem lessN_eq {α : Type} {key : α → List UInt8} {s : List UInt8} {l : List α} {i : Nat} (hi : i ≤ l.length) (h1 : ∀ (m : Nat) x, m < i → l[m]? = some x → Go.Op.bytesLess (key x) s = true) (h2 : ∀ (m : Nat) x, i ≤ m → l[m]? = some x → Go.Op.bytesLess (key x) s = false) : lessN key s l = i := by
 unfold lessN
 conv => lhs; rw [← List.take_append_drop i l, List.filter_append, List.length_append]
 have e1 : (l.take i).filter (fun x => Go.Op.bytesLess (key x) s) = l.take i := by
  rw [List.filter_eq_self]
  intro x hx
  obtain ⟨m, hm⟩ := List.getElem?_of_mem hx
  have hml := (List.getElem?_eq_some_iff.1 hm).1
  rw [List.length_take] at hml
  rw [List.getElem?_take_of_lt (by omega)] at hm
  exact h1 m x (by omega) hm
 have e2 : (l.drop i).filter (fun x => Go.Op.bytesLess (key x) s) = [] := by
  rw [List.filter_eq_nil_iff]
  intro x hx
  obtain ⟨m, hm⟩ := List.getElem?_of_mem hx
  rw [List.getElem?_drop] at hm
  rw [h2 (i + m) x (by omega) hm]; simp
 rw [e1, e2, List.length_take]
 simp; omega
theorem far_inc {f : GFar} (h : farB f = true) : f.fUsers.Pairwise (fun y x => Go.Op.bytesLess y.fName x.fName = true) := by
 unfold farB at h
 simp only [Bool.and_eq_true] at h
 have h := h.2
 have hs : ∀ (i : Nat) x y, f.fUsers[i]? = some y → f.fUsers[i + 1]? = some x → Go.Op.bytesLess y.fName x.fName = true := by
  intro i x y hy hx
  have := okP_get h hx
  unfold farQ at this
  rw [Bool.and_eq_true, adj_succ _ hy] at this
  exact this.2
 rw [List.pairwise_iff_getElem]
 intro i j hi hj hij
 obtain ⟨d, rfl⟩ : ∃ d, j = i + 1 + d := ⟨j - i - 1, by omega⟩
 induction d with
 | zero => exact hs i _ _ (List.getElem?_eq_getElem hi) (List.getElem?_eq_getElem hj)
 | succ d ih =>
  have h1 := ih (by omega) (by omega)
  have h2 := hs (i + 1 + d) _ _ (List.getElem?_eq_getElem (show i + 1 + d < f.fUsers.length by omega)) (List.getElem?_eq_getElem hj)
  exact bl_trans h1 h2
theorem pw_get {α : Type} {R : α → α → Prop} {l : List α} (h : l.Pairwise R) {i j : Nat} {x y : α} (hij : i < j) (hx : l[i]? = some x) (hy : l[j]? = some y) : R x y := by
 rw [List.pairwise_iff_getElem] at h
 obtain ⟨h1, rfl⟩ := List.getElem?_eq_some_iff.1 hx
 obtain ⟨h2, rfl⟩ := List.getElem?_eq_some_iff.1 hy
 exact h i j h1 h2 hij
theorem mid_int {i j : Nat} (hij : i + j ≤ 9223372036854775807) : IntKind.i64.wrap ((IntKind.u64.wrap (IntKind.i64.wrap ((i : Int) + (j : Int)))).fdiv 2) = (((i + j) / 2 : Nat) : Int) := by
 have e1 : IntKind.i64.wrap ((i : Int) + (j : Int)) = ((i + j : Nat) : Int) := by rw [wrap_id (by omega) (by omega)]; omega
 have e2 : IntKind.u64.wrap ((i + j : Nat) : Int) = ((i + j : Nat) : Int) := by rw [IntKind.wrap_u64]; omega
 rw [e1, e2, Int.fdiv_eq_ediv_of_nonneg _ (by omega), wrap_id (by omega) (by omega)]
 omega
theorem userIndex_c1_ok (u : GUser) (s : List UInt8) : Valid PP GG 169 [.agg u.c, .d (.str s)] (.d (.int .i64 (Lib.compareBytes u.fName s))) [none, none] := by
 refine cv Tryz.func169 [.d (.int .i64 (Lib.compareBytes u.fName s))] ?_
 have cc := Compare_ok (GG := GG) u.fName s
 exact u_31 (Z1 cc)
theorem SearchUser_ok (a : List GUser) (s : List UInt8) (hl : a.length ≤ 1048576) (hs : a.Pairwise (fun y x => Go.Op.bytesLess y.fName x.fName = true)) :
  Valid PP GG 168 [.d (.slc 2 (rUser a)), .d (.str s), .d (.fn 169 [])] (.tup [.d (.int .i64 (lessN GUser.fName s a)), .d (.bool (a.any fun u => u.fName == s))]) [none, none, none] := by
 refine cv Tryz.func168 [.d (.int .i64 (lessN GUser.fName s a)), .d (.bool (a.any fun u => u.fName == s))] ?_
 refine u_28 ?_
 refine W_loop (fun n st => ∃ i j : Nat, n = j - i ∧ i ≤ j ∧ j ≤ a.length ∧ (∀ (m : Nat) x, m < i → a[m]? = some x → Go.Op.bytesLess x.fName s = true) ∧ (∀ (m : Nat) x, j ≤ m → a[m]? = some x → Go.Op.bytesLess x.fName s = false) ∧
  st = ⟨[], [(0, .d (.slc 2 (rUser a))), (1, .d (.str s)), (2, .d (.fn 169 [])), (8, .d (.int .i64 a.length)), (9, .d (.int .i64 i)), (10, .d (.int .i64 j))], [], 0⟩) _ ⟨0, a.length, rfl, by omega, Nat.le_refl _, fun m x h => by omega, fun m x h h2 => (by rw [List.getElem?_eq_none h] at h2; cases h2), ?_⟩ ?_
 ·exact u_22
 rintro n st ⟨i, j, rfl, hij, hj, h1, h2, rfl⟩
 by_cases hlt : i < j
 ·have hm := mid_int (i := i) (j := j) (by omega)
  obtain ⟨md, hh⟩ : ∃ md, (i + j) / 2 = md := ⟨_, rfl⟩
  rw [hh] at hm
  have hmx := List.getElem?_eq_getElem (show md < a.length by omega)
  generalize a[md]'_ = x at hmx
  have cc := userIndex_c1_ok (GG := GG) x s
  have hcn := cmp_neg x.fName s
  cases hb : Go.Op.bytesLess x.fName s with
  | true =>
   rw [hb] at hcn
   have hw : IntKind.i64.wrap ((md : Int) + 1) = ((md + 1 : Nat) : Int) := by rw [wrap_id (by omega) (by omega)]; omega
   refine u_30 (Y4 hlt hm hmx hcn) (Z1 cc) ?_
   refine ⟨j - (md + 1), by omega, md + 1, j, rfl, by omega, hj, fun m y hm2 hy => ?_, h2, ?_⟩
   ·by_cases hmh : m = md
    ·subst hmh; rw [hmx] at hy; cases hy; exact hb
    ·exact bl_trans (pw_get hs (show m < md by omega) hy hmx) hb
   ·exact u_32 hw
  | false =>
   rw [hb] at hcn
   refine u_30 (Y4 hlt hm hmx hcn) (Z1 cc) ?_
   refine ⟨md - i, by omega, i, md, rfl, by omega, by omega, h1, fun m y hm2 hy => ?_, ?_⟩
   ·by_cases hmh : m = md
    ·subst hmh; rw [hmx] at hy; cases hy; exact hb
    ·cases hby : Go.Op.bytesLess y.fName s with
     | false => rfl
     | true => have := bl_trans (pw_get hs (show md < m by omega) hmx hy) hby; rw [hb] at this; cases this
   ·exact u_22
 ·have hije : i = j := by omega
  subst hije
  rw [lessN_eq hj h1 h2]
  by_cases hil : i < a.length
  ·have ha := List.getElem?_eq_getElem hil
   generalize a[i] = x at ha
   have cc := userIndex_c1_ok (GG := GG) x s
   have hcz := cmp_zero x.fName s
   have hany : a.any (fun u => u.fName == s) = (x.fName == s) := by
    cases hx : (x.fName == s) with
    | true => exact List.any_eq_true.2 ⟨x, List.mem_of_getElem? ha, hx⟩
    | false =>
     rw [List.any_eq_false]
     intro y hy hys
     have hys : y.fName = s := by simpa using hys
     obtain ⟨m, hm⟩ := List.getElem?_of_mem hy
     rcases Nat.lt_trichotomy m i with hmi | rfl | hmi
     ·have := h1 m y hmi hm; rw [hys, bl_irrefl] at this; cases this
     ·rw [ha] at hm; cases hm; rw [hys, beq_self_eq_true] at hx; cases hx
     ·have hxy := pw_get hs hmi ha hm
      rw [hys, h2 i x (Nat.le_refl _) ha] at hxy; cases hxy
   rw [hany]
   have hte := (List.getElem?_eq_some_iff.1 ha).2
   exact u_29 (Y3 hil hte hcz) (Z1 cc)
  ·have hany : a.any (fun u => u.fName == s) = false := by
    rw [List.any_eq_false]
    intro y hy hys
    have hys : y.fName = s := by simpa using hys
    obtain ⟨m, hm⟩ := List.getElem?_of_mem hy
    have := h1 m y (by have := (List.getElem?_eq_some_iff.1 hm).1; omega) hm
    rw [hys, bl_irrefl] at this; cases this
   rw [hany]
   exact u_20 hil
theorem userIndex_ok (f : GFar) (s : List UInt8) (hl : f.fUsers.length ≤ 1048576) (hb : farB f = true) : Valid PP GG 145 [.agg f.c, .d (.str s)] (.tup [.d (.int .i64 (lessN GUser.fName s f.fUsers)), .d (.bool (f.fUsers.any fun u => u.fName == s))]) [none, none] := by
 refine cv Tryz.func145 [.d (.int .i64 (lessN GUser.fName s f.fUsers)), .d (.bool (f.fUsers.any fun u => u.fName == s))] ?_
 have cs := SearchUser_ok (GG := GG) f.fUsers s hl (far_inc hb)
 exact u_31 (Z1 cs)
def delLease_ren : Go.Shelf.Ren := ⟨fun | 45 => 57 | n => n, fun | 22 => 27 | 23 => 49 | n => n, fun n => n⟩
theorem delLease : Go.Proofs.SlLaysE0.n45 PP delLease_ren := {
 mixed := by kernel_rfl
 f45 := ⟨"slices.Delete[[]loop.example/g00705/impl.Lease,loop.example/g00705/impl.Lease]", by decide, Tryz.func57.trans (congrArg some (by kernel_rfl))⟩
 t0 := Tryz.underlying0
 a0 := Tryz.isAgg0
 z0 := Tryz.sizeOf0
 v0 := Tryz.zeroValue0
 t3 := Tryz.underlying3
 a3 := Tryz.isAgg3
 z3 := Tryz.sizeOf3
 v3 := Tryz.zeroValue3
 t4 := Tryz.underlying4
 a4 := Tryz.isAgg4
 z4 := Tryz.sizeOf4
 v4 := Tryz.zeroValue4
 t22 := Tryz.underlying27
 a22 := Tryz.isAgg27
 z22 := Tryz.sizeOf27
 v22 := Tryz.zeroValue27
}
theorem DeleteLease_ok (rows : List (List D)) (i j : Nat) (hij : i ≤ j) (hj : j ≤ rows.length) : Valid PP GG 57 [.own 0 6 rows, .d (.int .i64 i), .d (.int .i64 j)] (.own 0 6 (rows.take i ++ rows.drop j)) [none, none, none] :=
 delete_valid delLease ⟨Tryz.f57, Tryz.func57, by kernel_rfl, by kernel_rfl⟩ (by kernel_rfl) (by omega) i j hij hj
theorem rLease_del (a : List GLease) (i : Nat) : (rLease a).take i ++ (rLease a).drop (i + 1) = rLease (a.take i ++ a.drop (i + 1)) := by simp [rLease]
def delUser_ren : Go.Shelf.Ren := ⟨fun | 45 => 178 | n => n, fun | 22 => 30 | 23 => 59 | n => n, fun n => n⟩
theorem delUser : Go.Proofs.SlLaysE0.n45 PP delUser_ren := {
 mixed := by kernel_rfl
 f45 := ⟨"slices.Delete[[]loop.example/g00705/impl.User,loop.example/g00705/impl.User]", by decide, Tryz.func178.trans (congrArg some (by kernel_rfl))⟩
 t0 := Tryz.underlying0
 a0 := Tryz.isAgg0
 z0 := Tryz.sizeOf0
 v0 := Tryz.zeroValue0
 t3 := Tryz.underlying3
 a3 := Tryz.isAgg3
 z3 := Tryz.sizeOf3
 v3 := Tryz.zeroValue3
 t4 := Tryz.underlying4
 a4 := Tryz.isAgg4
 z4 := Tryz.sizeOf4
 v4 := Tryz.zeroValue4
 t22 := Tryz.underlying30
 a22 := Tryz.isAgg30
 z22 := Tryz.sizeOf30
 v22 := Tryz.zeroValue30
}
theorem DeleteUser_ok (rows : List (List D)) (i j : Nat) (hij : i ≤ j) (hj : j ≤ rows.length) : Valid PP GG 178 [.own 0 2 rows, .d (.int .i64 i), .d (.int .i64 j)] (.own 0 2 (rows.take i ++ rows.drop j)) [none, none, none] :=
 delete_valid delUser ⟨Tryz.f178, Tryz.func178, by kernel_rfl, by kernel_rfl⟩ (by kernel_rfl) (by omega) i j hij hj
theorem rUser_del (a : List GUser) (i : Nat) : (rUser a).take i ++ (rUser a).drop (i + 1) = rUser (a.take i ++ a.drop (i + 1)) := by simp [rUser]
def delOwned_ren : Go.Shelf.Ren := ⟨fun | 45 => 110 | n => n, fun | 22 => 36 | 23 => 82 | n => n, fun n => n⟩
theorem delOwned : Go.Proofs.SlLaysE0.n45 PP delOwned_ren := {
 mixed := by kernel_rfl
 f45 := ⟨"slices.Delete[[]loop.example/g00705/impl.Owned,loop.example/g00705/impl.Owned]", by decide, Tryz.func110.trans (congrArg some (by kernel_rfl))⟩
 t0 := Tryz.underlying0
 a0 := Tryz.isAgg0
 z0 := Tryz.sizeOf0
 v0 := Tryz.zeroValue0
 t3 := Tryz.underlying3
 a3 := Tryz.isAgg3
 z3 := Tryz.sizeOf3
 v3 := Tryz.zeroValue3
 t4 := Tryz.underlying4
 a4 := Tryz.isAgg4
 z4 := Tryz.sizeOf4
 v4 := Tryz.zeroValue4
 t22 := Tryz.underlying36
 a22 := Tryz.isAgg36
 z22 := Tryz.sizeOf36
 v22 := Tryz.zeroValue36
}
theorem DeleteOwned_ok (rows : List (List D)) (i j : Nat) (hij : i ≤ j) (hj : j ≤ rows.length) : Valid PP GG 110 [.own 0 2 rows, .d (.int .i64 i), .d (.int .i64 j)] (.own 0 2 (rows.take i ++ rows.drop j)) [none, none, none] :=
 delete_valid delOwned ⟨Tryz.f110, Tryz.func110, by kernel_rfl, by kernel_rfl⟩ (by kernel_rfl) (by omega) i j hij hj
theorem rOwned_del (a : List GOwned) (i : Nat) : (rOwned a).take i ++ (rOwned a).drop (i + 1) = rOwned (a.take i ++ a.drop (i + 1)) := by simp [rOwned]
def dropF (f : GFar) (s : List UInt8) : GFar := if 0 < f.fFail then { f with fFail := f.fFail - 1 } else { f with fUsers := f.fUsers.filter fun u => !(u.fName == s) }
def dropC (f : GFar) : Int := if 0 < f.fFail then 2 else 0
theorem filter_keep {α : Type} {p : α → Bool} {l : List α} (h : ∀ x, x ∈ l → p x = true) : l.filter p = l := by
 rw [List.filter_eq_self]; exact h
theorem del_user {us : List GUser} {s : List UInt8} (hs : us.Pairwise (fun y x => Go.Op.bytesLess y.fName x.fName = true)) (h : us.any (fun u => u.fName == s) = true) :
  lessN GUser.fName s us < us.length ∧ us.take (lessN GUser.fName s us) ++ us.drop (lessN GUser.fName s us + 1) = us.filter fun u => !(u.fName == s) := by
 rw [List.any_eq_true] at h
 obtain ⟨x, hx, hxs⟩ := h
 have hxs : x.fName = s := by simpa using hxs
 obtain ⟨i, hi⟩ := List.getElem?_of_mem hx
 have hlt := (List.getElem?_eq_some_iff.1 hi).1
 have h1 : ∀ (m : Nat) y, m < i → us[m]? = some y → Go.Op.bytesLess y.fName s = true := fun m y hm hy => hxs ▸ pw_get hs hm hy hi
 have h2 : ∀ (m : Nat) y, i < m → us[m]? = some y → Go.Op.bytesLess s y.fName = true := fun m y hm hy => hxs ▸ pw_get hs hm hi hy
 have e : lessN GUser.fName s us = i := lessN_eq (by omega) h1 fun m y hm hy => by
  by_cases hmi : m = i
  ·subst hmi; rw [hi] at hy; cases hy; rw [hxs, bl_irrefl]
  ·exact bl_asymm (h2 m y (by omega) hy)
 rw [e]
 refine ⟨hlt, ?_⟩
 conv => rhs; rw [← List.take_append_drop i us, drop_get hi]
 rw [List.filter_append, List.filter_cons, hxs, beq_self_eq_true]
 simp only [Bool.not_true, Bool.false_eq_true, if_false]
 rw [filter_keep fun y hy => ?_, filter_keep fun y hy => ?_]
 ·obtain ⟨m, hm⟩ := List.getElem?_of_mem hy
  rw [List.getElem?_drop] at hm
  have := h2 (i + 1 + m) y (by omega) hm
  cases hb : (y.fName == s) with
  | false => rfl
  | true => rw [beq_iff_eq] at hb; rw [hb, bl_irrefl] at this; cases this
 ·obtain ⟨m, hm⟩ := List.getElem?_of_mem hy
  have hml := (List.getElem?_eq_some_iff.1 hm).1
  rw [List.length_take] at hml
  rw [List.getElem?_take_of_lt (by omega)] at hm
  have := h1 m y (by omega) hm
  cases hb : (y.fName == s) with
  | false => rfl
  | true => rw [beq_iff_eq] at hb; rw [hb, bl_irrefl] at this; cases this
theorem okP_of {α : Type} {q : List α → α → Bool} {l : List α} (h : ∀ (i : Nat) x, l[i]? = some x → q (l.take i) x = true) : okP q [] l = true := by
 have : ∀ n, n ≤ l.length → okP q [] (l.take n) = true := by
  intro n
  induction n with
  | zero => intro _; rfl
  | succ n ih =>
   intro hn
   have hx := List.getElem?_eq_getElem (show n < l.length by omega)
   rw [okP_step hx, ih (by omega), h n _ hx]; rfl
 have := this l.length (Nat.le_refl _)
 rwa [List.take_length] at this
theorem far_iff (f : GFar) : farB f = true ↔ f.fUsers.length ≤ 120 ∧ inB f.fFail 0 1000 = true ∧ inB f.fMade 0 1000000000 = true ∧ (∀ u, u ∈ f.fUsers → nameOk u.fName = true) ∧ f.fUsers.Pairwise (fun y x => Go.Op.bytesLess y.fName x.fName = true) := by
 constructor
 ·intro h
  have hp := far_inc h
  unfold farB at h
  simp only [Bool.and_eq_true, decide_eq_true_eq] at h
  refine ⟨h.1.1.1, h.1.1.2, h.1.2, fun u hu => ?_, hp⟩
  obtain ⟨i, hi⟩ := List.getElem?_of_mem hu
  have := okP_get h.2 hi
  unfold farQ at this
  rw [Bool.and_eq_true] at this
  exact this.1
 ·rintro ⟨h1, h2, h3, h4, h5⟩
  unfold farB
  rw [h2, h3, decide_eq_true h1]
  simp only [Bool.and_self, Bool.true_and]
  refine okP_of fun i x hx => ?_
  unfold farQ
  rw [h4 x (List.mem_of_getElem? hx), Bool.true_and]
  cases i with
  | zero => exact adj_zero _ _ _
  | succ j =>
   have hlt := (List.getElem?_eq_some_iff.1 hx).1
   have hy := List.getElem?_eq_getElem (show j < f.fUsers.length by omega)
   rw [adj_succ _ hy]
   exact pw_get h5 (Nat.lt_succ_self j) hy hx
theorem far_drop {f : GFar} (h : farB f = true) (s : List UInt8) : farB (dropF f s) = true := by
 rw [far_iff] at h ⊢
 obtain ⟨h1, h2, h3, h4, h5⟩ := h
 unfold dropF
 split
 ·rename_i hp
  refine ⟨h1, ?_, h3, h4, h5⟩
  have := inB_true h2
  unfold inB; simp only [Bool.and_eq_true, decide_eq_true_eq]; omega
 ·exact ⟨Nat.le_trans (List.length_filter_le _ _) h1, h2, h3, fun u hu => h4 u ((List.mem_filter.1 hu).1), h5.filter _⟩
theorem fit_drop {f : GFar} (h : fitFar f) (s : List UInt8) : fitFar (dropF f s) := by
 unfold dropF
 split
 ·exact h
 ·exact ⟨Nat.le_trans (List.length_filter_le _ _) h.1, fun u hu => h.2 u ((List.mem_filter.1 hu).1)⟩
theorem dropUser_ok (f : GFar) (s : List UInt8) (hf : fitFar f) (hb : farB f = true) : Valid PP GG 150 [.agg f.c, .d (.str s)] (.tup [.agg (dropF f s).o, .d (.int .i64 (dropC f))]) [none, none] := by
 refine cv Tryz.func150 [.agg (dropF f s).o, .d (.int .i64 (dropC f))] ?_
 have hD : dropF f s = if 0 < f.fFail then { f with fFail := f.fFail - 1 } else { f with fUsers := f.fUsers.filter fun u => !(u.fName == s) } := rfl
 have hC : dropC f = if 0 < f.fFail then 2 else 0 := rfl
 have ccp := cloneFar_ok (GG := GG) f.fUsers f.fFail f.fMade (by have := hf.1; omega)
 have cui := userIndex_ok (GG := GG) f s hf.1 hb
 have hi := far_iff f |>.1 hb
 have hdu := fun h => del_user (us := f.fUsers) (s := s) hi.2.2.2.2 h
 obtain ⟨a, ff, fm⟩ := f
 dsimp only at hD hC ccp cui hi hdu
 have hin := inB_true hi.2.1
 have hi3 := ind_rUser a
 generalize dropF ⟨a, ff, fm⟩ s = DF at *
 generalize dropC ⟨a, ff, fm⟩ = DC at *
 by_cases hff : 0 < ff
 ·rw [if_pos hff] at hD hC
  subst hD hC
  have hw : IntKind.i64.wrap (ff - 1) = ff - 1 := wrap_id (by omega) (by omega)
  exact u_29 (Y2 hff hw) (Z1 ccp)
 ·rw [if_neg hff] at hD hC
  subst hD hC
  cases hany : a.any (fun u => u.fName == s) with
  | false =>
   rw [hany] at cui
   have e : (a.filter fun u => !(u.fName == s)) = a := filter_keep fun u hu => by
    rw [List.any_eq_false] at hany
    have := hany u hu
    simpa using this
   rw [e]
   exact u_29 hff (Z2 ccp cui)
  | true =>
   rw [hany] at cui
   obtain ⟨hk, hde⟩ := hdu hany
   generalize lessN GUser.fName s a = k at *
   have cdl := DeleteUser_ok (GG := GG) (rUser a) k (k + 1) (by omega) (by rw [rUser_len]; omega)
   rw [rUser_del, hde] at cdl
   have hw : IntKind.i64.wrap ((k : Int) + 1) = ((k + 1 : Nat) : Int) := by rw [wrap_id (by omega) (by omega)]; omega
   rw [show ((k + 1 : Nat) : Int) = (k : Int) + 1 by omega] at cdl hw
   have hi4 := ind_rUser (a.filter fun u => !(u.fName == s))
   generalize (a.filter fun u => !(u.fName == s)) = b at *
   exact u_29 (Y2 hff hw) (Z3 ccp cui cdl)
theorem s_DropUser_ok [MaxL GG] (f : GFar) (s : List UInt8) (hf : fitFar f) (hb : farB f = true) : Valid PP GG 198 [.agg f.c, .d (.str s)] (.tup [.agg (dropF f s).o, .d (.int .i64 (dropC f))]) [none, none] := by
 refine cv Tryz.func198 [.agg (dropF f s).o, .d (.int .i64 (dropC f))] ?_
 have hD : dropF f s = if 0 < f.fFail then { f with fFail := f.fFail - 1 } else { f with fUsers := f.fUsers.filter fun u => !(u.fName == s) } := rfl
 have hC : dropC f = if 0 < f.fFail then 2 else 0 := rfl
 have ccp := s_l11Copy_ok (GG := GG) f.fUsers f.fFail f.fMade (by have := hf.1; omega)
 have cfo := s_FarOk_ok (GG := GG) f hf
 rw [hb] at cfo
 have hi := far_iff f |>.1 hb
 have hl := hf.1
 obtain ⟨a, ff, fm⟩ := f
 dsimp only at hD hC ccp cfo hi hl
 have hin := inB_true hi.2.1
 have hi3 := ind_rUser a
 generalize dropF ⟨a, ff, fm⟩ s = DF at *
 generalize dropC ⟨a, ff, fm⟩ = DC at *
 by_cases hff : 0 < ff
 ·rw [if_pos hff] at hD hC
  subst hD hC
  have hw : IntKind.i64.wrap (ff - 1) = ff - 1 := wrap_id (by omega) (by omega)
  exact u_29 (Y2 hff hw) (Z2 cfo ccp)
 ·rw [if_neg hff] at hD hC
  subst hD hC
  refine u_1 ?_
  refine u_11 (Z1 ccp) ?_
  refine W_seq (W_seq ?_)
  refine u_50 (Z1 cfo) ?_
  refine W_cond rfl (fun h => by simp at h) (fun h => W_skip ?_)
  refine W_seq (W_seq ?_)
  refine u_7 hff ?_
  refine W_cond rfl (fun h => by simp at h) (fun h => W_skip ?_)
  refine u_1 ?_
  refine W_nilP 6 0 rfl rfl rfl ?_
  refine u_28 ?_
  refine W_loop (fun n st => ∃ i : Nat, n = a.length - i ∧ i ≤ a.length ∧
   st = ⟨[], [(1, .d (.str s)), (2, .ptr 0 0), (4, .ptr 1 0), (6, .ptr 2 0), (7, .d (.int .i64 i))], [(0, .box [.d (.slc 2 (rUser a)), .d (.int .i64 ff), .d (.int .i64 fm)]), (1, .box [.nil 0 2, .d (.int .i64 0), .d (.int .i64 0)]), (2, .box [.sl 3, .d (.int .i64 ff), .d (.int .i64 fm)]), (3, .arr 0 0 2 (rUser ((a.take i).filter fun u => !(u.fName == s))))], 4⟩) _ ⟨0, rfl, by omega, ?_⟩ ?_
  ·exact u_59
  rintro n st ⟨i, rfl, hi', rfl⟩
  by_cases hlt : i < a.length
  rotate_left
  ·have hie : i = a.length := by omega
   subst hie
   rw [List.take_length]
   have hi4 := ind_rUser (a.filter fun u => !(u.fName == s))
   generalize (a.filter fun u => !(u.fName == s)) = b at *
   exact u_27
  have ha := List.getElem?_eq_getElem hlt
  generalize a[i] = x at ha
  have hsc := filter_succ (p := fun u : GUser => !(u.fName == s)) (f := GUser.row) ha
  have hlen := filter_take_len (fun u : GUser => !(u.fName == s)) GUser.row a i
  rw [show ∀ l : List GUser, (l.filter fun u => !(u.fName == s)).map GUser.row = rUser (l.filter fun u => !(u.fName == s)) from fun l => rfl] at hsc hlen
  rw [show ∀ l : List GUser, (l.filter fun u => !(u.fName == s)).map GUser.row = rUser (l.filter fun u => !(u.fName == s)) from fun l => rfl] at hsc
  generalize rUser ((a.take i).filter fun u => !(u.fName == s)) = L at *
  obtain ⟨xn, xp⟩ := x
  dsimp only at hsc
  cases hx : (xn == s) with
  | false =>
   rw [hx] at hsc
   simp only [Bool.not_false, if_true] at hsc
   refine u_58 (Y2 ha hx) ?_
   refine ⟨a.length - (i + 1), by omega, i + 1, rfl, hlt, ?_⟩
   rw [hsc]
   refine u_25 ?_
   exact wrap_id (by omega) (by omega)
  | true =>
   rw [hx] at hsc
   simp only [Bool.not_true, Bool.false_eq_true, if_false, List.append_nil] at hsc
   refine u_21 (Y2 ha hx) ?_
   refine ⟨a.length - (i + 1), by omega, i + 1, rfl, hlt, ?_⟩
   rw [hsc]
   refine u_25 ?_
   exact wrap_id (by omega) (by omega)
def dropOut (q : GQueue) (s : List UInt8) (now : Int) : GQueue := ⟨q.fJobs ++ [⟨s, now, 0⟩]⟩
def qHas (q : GQueue) (s : List UInt8) : Bool := q.fJobs.any fun t => t.fName == s
def qDropB (q : GQueue) (s : List UInt8) (now : Int) : Bool := qHas q s || queueB (dropOut q s now)
def qDropQ (q : GQueue) (s : List UInt8) (now : Int) : GQueue := if qHas q s then q else if queueB (dropOut q s now) then dropOut q s now else q
theorem fitQ_app {q : GQueue} {s : List UInt8} (now : Int) (h : queueB q = true) (hf : fitQ q) (hs : s.length ≤ 1048576) : fitQ (dropOut q s now) := by
 unfold queueB at h
 simp only [Bool.and_eq_true, decide_eq_true_eq] at h
 refine ⟨by unfold dropOut; simp; omega, fun t ht => ?_⟩
 rcases List.mem_append.1 ht with ht | ht
 ·exact hf.2 t ht
 ·simp at ht; subst ht; exact hs
theorem queueDrop_ok [MaxL GG] (q : GQueue) (s : List UInt8) (now : Int) (hf : fitQ q) (hs : s.length ≤ 1048576) (hb : queueB q = true) :
  Valid PP GG 109 [.agg q.c, .d (.str s), .d (.int .i64 now)] (.tup [.agg (qDropQ q s now).o, .d (.bool (qDropB q s now))]) [none, none, none] := by
 refine cv Tryz.func109 [.agg (qDropQ q s now).o, .d (.bool (qDropB q s now))] ?_
 have ccp := cloneQueue_ok (GG := GG) q.fJobs (by have := hf.1; omega)
 have ch := hasJob_ok (GG := GG) q s hf.1
 have cq := isQueue_ok (GG := GG) (dropOut q s now) (fitQ_app now hb hf hs)
 have hB : qDropB q s now = (qHas q s || queueB (dropOut q s now)) := rfl
 have hQ : qDropQ q s now = if qHas q s then q else if queueB (dropOut q s now) then dropOut q s now else q := rfl
 have hH : qHas q s = q.fJobs.any fun t => t.fName == s := rfl
 have hl := hf.1
 rw [← hH] at ch
 clear hH
 obtain ⟨a⟩ := q
 dsimp only at ccp ch hB hQ hl
 have hi1 := ind_rJob a
 have hro : rJob (dropOut ⟨a⟩ s now).fJobs = rJob a ++ [[.str s, .int .i64 now, .int .i64 0]] := by
  unfold dropOut; dsimp only; rw [rJob_app]; rfl
 dsimp only [GQueue.c] at cq
 rw [hro] at cq
 generalize qHas ⟨a⟩ s = H at *
 generalize hqo : queueB (dropOut ⟨a⟩ s now) = Q at *
 have hoq : (dropOut ⟨a⟩ s now).o = [.own 0 3 (rJob a ++ [[.str s, .int .i64 now, .int .i64 0]])] := by rw [← hro]
 generalize dropOut ⟨a⟩ s now = OQ at *
 generalize qDropB ⟨a⟩ s now = DB at *
 generalize qDropQ ⟨a⟩ s now = DQ at *
 cases H
 ·simp only [Bool.false_or, Bool.false_eq_true, if_false] at hB hQ
  subst hB
  cases DB
  ·simp only [Bool.false_eq_true, if_false] at hQ
   subst hQ
   exact u_60 (Z3 ccp ch cq)
  ·simp only [if_true] at hQ
   subst hQ
   rw [hoq]
   exact u_60 (Z3 ccp ch cq)
 ·simp only [Bool.true_or, if_true] at hB hQ
  subst hB hQ
  exact u_31 (Z2 ccp ch)
theorem s_QueueDrop_ok [MaxL GG] (q : GQueue) (s : List UInt8) (now : Int) (hf : fitQ q) (hs : s.length ≤ 1048576) (hb : queueB q = true) :
  Valid PP GG 184 [.agg q.c, .d (.str s), .d (.int .i64 now)] (.tup [.agg (qDropQ q s now).o, .d (.bool (qDropB q s now))]) [none, none, none] := by
 refine cv Tryz.func184 [.agg (qDropQ q s now).o, .d (.bool (qDropB q s now))] ?_
 have ccp := s_l11CopyQueue_ok (GG := GG) q.fJobs (by have := hf.1; omega)
 have cq0 := s_QueueOk_ok (GG := GG) q hf
 rw [hb] at cq0
 have cq := s_QueueOk_ok (GG := GG) (dropOut q s now) (fitQ_app now hb hf hs)
 have hB : qDropB q s now = (qHas q s || queueB (dropOut q s now)) := rfl
 have hQ : qDropQ q s now = if qHas q s then q else if queueB (dropOut q s now) then dropOut q s now else q := rfl
 have hH : qHas q s = q.fJobs.any fun t => t.fName == s := rfl
 have hl := hf.1
 obtain ⟨a⟩ := q
 dsimp only at ccp cq0 hB hQ hl hH
 have hi1 := ind_rJob a
 have hro : rJob (dropOut ⟨a⟩ s now).fJobs = rJob a ++ [[.str s, .int .i64 now, .int .i64 0]] := by
  unfold dropOut; dsimp only; rw [rJob_app]; rfl
 dsimp only [GQueue.c] at cq
 rw [hro] at cq
 generalize qHas ⟨a⟩ s = H at *
 generalize hqo : queueB (dropOut ⟨a⟩ s now) = Q at *
 have hoq : (dropOut ⟨a⟩ s now).o = [.own 0 3 (rJob a ++ [[.str s, .int .i64 now, .int .i64 0]])] := by rw [← hro]
 generalize dropOut ⟨a⟩ s now = OQ at *
 generalize qDropB ⟨a⟩ s now = DB at *
 generalize qDropQ ⟨a⟩ s now = DQ at *
 refine u_36 (Z2 ccp cq0) ?_
 refine W_loop (fun n st => ∃ i : Nat, n = a.length - i ∧ i ≤ a.length ∧ (∀ y, y ∈ a.take i → (y.fName == s) = false) ∧
  st = ⟨[], [(1, .d (.str s)), (2, .d (.int .i64 now)), (3, .ptr 0 0), (6, .ptr 1 0), (8, .ptr 2 0), (9, .d (.int .i64 i))], [(0, .box [.d (.slc 3 (rJob a))]), (1, .box [.nil 0 3]), (2, .box [.sl 3]), (3, .arr 0 0 3 (rJob a))], 4⟩) _ ⟨0, rfl, by omega, fun x hx => by simp at hx, ?_⟩ ?_
 ·exact u_22
 rintro n st ⟨i, rfl, hi, hn, rfl⟩
 by_cases hlt : i < a.length
 ·have ha := List.getElem?_eq_getElem hlt
  generalize a[i] = x at ha
  obtain ⟨xn, xa, xt⟩ := x
  cases hx : (xn == s) with
  | true =>
   have e := (find_hit (p := fun t : GJob => t.fName == s) ha hn hx).2
   rw [e] at hH
   subst hH
   simp only [Bool.true_or, if_true] at hB hQ
   subst hB hQ
   exact u_20 (Y2 ha hx)
  | false =>
   have hn2 := take_miss (p := fun t : GJob => t.fName == s) ha hn hx
   refine u_21 (Y2 ha hx) ?_
   refine ⟨a.length - (i + 1), by omega, i + 1, rfl, hlt, hn2, ?_⟩
   refine u_25 ?_
   exact wrap_id (by omega) (by omega)
 ·have hie : i = a.length := by omega
  subst hie
  rw [List.take_length] at hn
  rw [(find_miss hn).2] at hH
  subst hH
  simp only [Bool.false_or, Bool.false_eq_true, if_false] at hB hQ
  subst hB
  cases DB
  ·simp only [Bool.false_eq_true, if_false] at hQ
   subst hQ
   exact u_60 (Z2 ccp cq)
  ·simp only [if_true] at hQ
   subst hQ
   rw [hoq]
   exact u_60 (Z2 ccp cq)
structure RQ where
 jobs : List GJob
 far : GFar
 done : List (List UInt8)
 failed : List (List UInt8)
def rqStep (now : Int) (s : RQ) (j : GJob) : RQ :=
 if now < j.fAt then { s with jobs := s.jobs ++ [j] }
 else if dropC s.far = 0 then { s with far := dropF s.far j.fName, done := s.done ++ [j.fName] }
 else if j.fTries + 1 = 6 then { s with far := dropF s.far j.fName, failed := s.failed ++ [j.fName] }
 else { s with jobs := s.jobs ++ [⟨j.fName, now + 2 ^ (j.fTries + 1).toNat, j.fTries + 1⟩], far := dropF s.far j.fName }
def rq (now : Int) (q : List GJob) (f : GFar) : RQ := q.foldl (rqStep now) ⟨[], f, [], []⟩
theorem rq_succ {now : Int} {q : List GJob} {f : GFar} {i : Nat} {j : GJob} (h : q[i]? = some j) : rq now (q.take (i + 1)) f = rqStep now (rq now (q.take i) f) j := by
 unfold rq; rw [List.take_add_one, h, List.foldl_append]; rfl
theorem rq_len (now : Int) (q : List GJob) (f : GFar) : (rq now q f).jobs.length ≤ q.length ∧ (rq now q f).done.length ≤ q.length ∧ (rq now q f).failed.length ≤ q.length := by
 induction q using snoc_ind with
 | h0 => exact ⟨Nat.le_refl _, Nat.le_refl _, Nat.le_refl _⟩
 | h1 l x ih =>
  have e : rq now (l ++ [x]) f = rqStep now (rq now l f) x := by unfold rq; rw [List.foldl_append]; rfl
  rw [e, List.length_append]
  simp only [List.length_cons, List.length_nil]
  unfold rqStep
  repeat' split
  all_goals (simp only [List.length_append, List.length_cons, List.length_nil]; omega)
theorem rq_far {now : Int} {f : GFar} (hb : farB f = true) (hf : fitFar f) (q : List GJob) : farB (rq now q f).far = true ∧ fitFar (rq now q f).far := by
 induction q using snoc_ind with
 | h0 => exact ⟨hb, hf⟩
 | h1 l x ih =>
  have e : rq now (l ++ [x]) f = rqStep now (rq now l f) x := by unfold rq; rw [List.foldl_append]; rfl
  rw [e]
  unfold rqStep
  repeat' split
  ·exact ih
  all_goals exact ⟨far_drop ih.1 _, fit_drop ih.2 _⟩
theorem strsD_one (l : List (List UInt8)) (x : List UInt8) : strsD l ++ [[.str x]] = strsD (l ++ [x]) := by simp [strsD]
theorem rJob_one (l : List GJob) (x : GJob) : rJob l ++ [x.row] = rJob (l ++ [x]) := by simp [rJob]
theorem job_tries {q : GQueue} (h : queueB q = true) {i : Nat} {j : GJob} (hi : q.fJobs[i]? = some j) : 0 ≤ j.fTries ∧ j.fTries ≤ 5 := by
 unfold queueB at h
 rw [Bool.and_eq_true] at h
 have := okP_get h.2 hi
 unfold jobQ jobB at this
 simp only [Bool.and_eq_true] at this
 exact inB_true this.1.2
theorem shl_one {t : Int} (h1 : 1 ≤ t) (h2 : t ≤ 5) : IntKind.i64.wrap (1 * 2 ^ (min t.toNat 64)) = 2 ^ t.toNat ∧ 0 ≤ (2 : Int) ^ t.toNat ∧ (2 : Int) ^ t.toNat ≤ 32 := by
 obtain ⟨n, rfl⟩ : ∃ n : Nat, t = n := ⟨t.toNat, by omega⟩
 have : n = 1 ∨ n = 2 ∨ n = 3 ∨ n = 4 ∨ n = 5 := by omega
 rcases this with rfl | rfl | rfl | rfl | rfl <;> decide
theorem runQueue_ok (q : GQueue) (f : GFar) (now : Int) (hq : fitQ q) (hf : fitFar f) (hqb : queueB q = true) (hfb : farB f = true) (hnow : 0 ≤ now ∧ now ≤ 1000000000) :
  Valid PP GG 111 [.agg q.c, .agg f.c, .d (.int .i64 now)] (.tup [.agg (GQueue.mk (rq now q.fJobs f).jobs).o, .agg (rq now q.fJobs f).far.o, .own 0 1 (strsD (rq now q.fJobs f).done), .own 0 1 (strsD (rq now q.fJobs f).failed)]) [none, none, none] := by
 refine cv Tryz.func111 [.agg (GQueue.mk (rq now q.fJobs f).jobs).o, .agg (rq now q.fJobs f).far.o, .own 0 1 (strsD (rq now q.fJobs f).done), .own 0 1 (strsD (rq now q.fJobs f).failed)] ?_
 have ccp := cloneFar_ok (GG := GG) f.fUsers f.fFail f.fMade (by have := hf.1; omega)
 have hfa := fun l => rq_far (now := now) hfb hf l
 have htr := fun (i : Nat) (j : GJob) h => job_tries (q := q) hqb (i := i) (j := j) h
 have hl := hq.1
 have hi3 := ind_rUser f.fUsers
 obtain ⟨a⟩ := q
 obtain ⟨us, ff, fm⟩ := f
 dsimp only at ccp htr hl hi3
 refine u_1 ?_
 refine u_1 ?_
 refine W_nilP 10 0 rfl rfl rfl ?_
 refine u_1 ?_
 refine W_nilV 11 rfl ?_
 refine W_nilV 12 rfl ?_
 refine u_36 (Z1 ccp) ?_
 refine W_loop (fun n st => ∃ i : Nat, n = a.length - i ∧ i ≤ a.length ∧
  st = ⟨[], [(2, .d (.int .i64 now)), (4, .ptr 0 0), (6, .ptr 1 0), (7, .ptr 2 0), (10, .ptr 3 0), (11, .sl 4), (12, .sl 5), (20, .d (.slc 3 (rJob a))), (21, .d (.int .i64 a.length)), (22, .d (.int .i64 i))],
   [(0, .box [.sl 6, .d (.int .i64 (rq now (a.take i) ⟨us, ff, fm⟩).far.fFail), .d (.int .i64 (rq now (a.take i) ⟨us, ff, fm⟩).far.fMade)]), (1, .box [.nil 0 3]), (2, .box [.nil 0 2, .d (.int .i64 0), .d (.int .i64 0)]), (3, .box [.sl 7]),
    (4, .arr 0 0 1 (strsD (rq now (a.take i) ⟨us, ff, fm⟩).done)), (5, .arr 0 0 1 (strsD (rq now (a.take i) ⟨us, ff, fm⟩).failed)), (6, .arr 0 0 2 (rUser (rq now (a.take i) ⟨us, ff, fm⟩).far.fUsers)), (7, .arr 0 0 3 (rJob (rq now (a.take i) ⟨us, ff, fm⟩).jobs))], 8⟩) _ ⟨0, rfl, by omega, ?_⟩ ?_
 ·exact u_61
 rintro n st ⟨i, rfl, hi, rfl⟩
 by_cases hlt : i < a.length
 rotate_left
 ·have hie : i = a.length := by omega
  subst hie
  rw [List.take_length]
  exact u_27
 have ha := List.getElem?_eq_getElem hlt
 generalize a[i] = x at ha
 have hsu := rq_succ (now := now) (f := ⟨us, ff, fm⟩) ha
 have hlen := rq_len now (a.take i) ⟨us, ff, fm⟩
 rw [List.length_take] at hlen
 obtain ⟨hfb2, hff2⟩ := hfa (a.take i)
 have ht := htr i x ha
 generalize rq now (a.take i) ⟨us, ff, fm⟩ = R at *
 obtain ⟨rj, rf, rd, rl⟩ := R
 dsimp only at hlen hfb2 hff2
 have cd := dropUser_ok (GG := GG) rf x.fName hff2 hfb2
 unfold rqStep at hsu
 dsimp only at hsu
 obtain ⟨xn, xa, xt⟩ := x
 dsimp only at cd hsu ht
 have hi4 := ind_rUser (dropF rf xn).fUsers
 have hdc : dropC rf = 0 ∨ dropC rf = 2 := by unfold dropC; split <;> simp
 have hi5 := ind_rUser rf.fUsers
 have hl1 : (strsD rd).length ≤ i := by rw [strsD_len]; omega
 have hl2 : (strsD rl).length ≤ i := by rw [strsD_len]; omega
 have hl3 : (rJob rj).length ≤ i := by rw [rJob_len]; omega
 by_cases hat : now < xa
 ·rw [if_pos hat] at hsu
  refine u_58 (Y2 ha hat) ?_
  refine ⟨a.length - (i + 1), by omega, i + 1, rfl, hlt, ?_⟩
  rw [hsu]
  refine u_62 ?_
  exact wrap_id (by omega) (by omega)
 ·rw [if_neg hat] at hsu
  generalize dropC rf = DC at *
  generalize dropF rf xn = DF at *
  obtain ⟨du, df, dm⟩ := DF
  obtain ⟨ru, rff, rfm⟩ := rf
  dsimp only at hi4 hi5
  rcases hdc with rfl | rfl
  ·rw [if_pos rfl] at hsu
   refine u_55 (Y2 ha hat) (Z1 cd) ?_
   refine ⟨a.length - (i + 1), by omega, i + 1, rfl, hlt, ?_⟩
   rw [hsu]
   refine u_63 ?_
   exact wrap_id (by omega) (by omega)
  ·rw [if_neg (by omega)] at hsu
   have hw1 : IntKind.i64.wrap (xt + 1) = xt + 1 := wrap_id (by omega) (by omega)
   by_cases h6 : xt + 1 = 6
   ·rw [if_pos h6] at hsu
    have hq6 : (xt + 1 == 6) = true := by simpa using h6
    refine u_55 (Y4 ha hat hw1 hq6) (Z1 cd) ?_
    refine ⟨a.length - (i + 1), by omega, i + 1, rfl, hlt, ?_⟩
    rw [hsu]
    refine u_63 ?_
    exact wrap_id (by omega) (by omega)
   ·rw [if_neg h6] at hsu
    have hq6 : (xt + 1 == 6) = false := by simpa using h6
    obtain ⟨hs1, hs2, hs3⟩ := shl_one (t := xt + 1) (by omega) (by omega)
    have hw2 : IntKind.i64.wrap (now + 2 ^ (xt + 1).toNat) = now + 2 ^ (xt + 1).toNat := wrap_id (by omega) (by omega)
    have hnn : 0 ≤ xt + 1 := by omega
    refine u_65 (Y7 ha hat hw1 hq6 hnn hs1 hw2) (Z1 cd) ?_
    refine ⟨a.length - (i + 1), by omega, i + 1, rfl, hlt, ?_⟩
    rw [hsu]
    refine u_62 ?_
    refine ⟨wrap_id (by omega) (by omega), ?_⟩
    rw [Nat.min_eq_left (by omega), wrap_id (n := 2 ^ (xt + 1).toNat) (by omega) (by omega)]
    exact hw2
theorem s_RunQueue_ok [MaxL GG] (q : GQueue) (f : GFar) (now : Int) (hq : fitQ q) (hf : fitFar f) (hqb : queueB q = true) (hfb : farB f = true) (hnow : 0 ≤ now ∧ now ≤ 1000000000) :
  Valid PP GG 186 [.agg q.c, .agg f.c, .d (.int .i64 now)] (.tup [.agg (GQueue.mk (rq now q.fJobs f).jobs).o, .agg (rq now q.fJobs f).far.o, .own 0 1 (strsD (rq now q.fJobs f).done), .own 0 1 (strsD (rq now q.fJobs f).failed)]) [none, none, none] := by
 refine cv Tryz.func186 [.agg (GQueue.mk (rq now q.fJobs f).jobs).o, .agg (rq now q.fJobs f).far.o, .own 0 1 (strsD (rq now q.fJobs f).done), .own 0 1 (strsD (rq now q.fJobs f).failed)] ?_
 have ccp := s_l11Copy_ok (GG := GG) f.fUsers f.fFail f.fMade (by have := hf.1; omega)
 have cqo := s_QueueOk_ok (GG := GG) q hq
 have cfo := s_FarOk_ok (GG := GG) f hf
 have cin := l01In_ok (GG := GG) now 0 1000000000
 rw [hqb] at cqo
 rw [hfb] at cfo
 rw [decide_eq_true hnow.1, decide_eq_true hnow.2, Bool.and_self] at cin
 have hfa := fun l => rq_far (now := now) hfb hf l
 have htr := fun (i : Nat) (j : GJob) h => job_tries (q := q) hqb (i := i) (j := j) h
 have hl := hq.1
 have hi3 := ind_rUser f.fUsers
 obtain ⟨a⟩ := q
 obtain ⟨us, ff, fm⟩ := f
 dsimp only at ccp cqo cfo htr hl hi3
 refine u_1 ?_
 refine u_11 (Z1 ccp) ?_
 refine W_seq (W_seq ?_)
 refine u_50 (Z3 cqo cfo cin) ?_
 refine W_cond rfl (fun h => by simp at h) (fun h => W_skip ?_)
 refine u_1 ?_
 refine W_nilP 11 0 rfl rfl rfl ?_
 refine u_28 ?_
 refine W_loop (fun n st => ∃ i : Nat, n = a.length - i ∧ i ≤ a.length ∧
  st = ⟨[], [(2, .d (.int .i64 now)), (3, .ptr 0 0), (6, .ptr 1 0), (7, .ptr 2 0), (10, .ptr 3 0), (11, .ptr 4 0), (12, .sl 5), (13, .sl 6), (14, .d (.int .i64 i))],
   [(0, .box [.d (.slc 3 (rJob a))]), (1, .box [.nil 0 3]), (2, .box [.nil 0 2, .d (.int .i64 0), .d (.int .i64 0)]), (3, .box [.sl 7, .d (.int .i64 (rq now (a.take i) ⟨us, ff, fm⟩).far.fFail), .d (.int .i64 (rq now (a.take i) ⟨us, ff, fm⟩).far.fMade)]), (4, .box [.sl 8]),
    (5, .arr 0 0 1 (strsD (rq now (a.take i) ⟨us, ff, fm⟩).done)), (6, .arr 0 0 1 (strsD (rq now (a.take i) ⟨us, ff, fm⟩).failed)), (7, .arr 0 0 2 (rUser (rq now (a.take i) ⟨us, ff, fm⟩).far.fUsers)), (8, .arr 0 0 3 (rJob (rq now (a.take i) ⟨us, ff, fm⟩).jobs))], 9⟩) _ ⟨0, rfl, by omega, ?_⟩ ?_
 ·exact u_61
 rintro n st ⟨i, rfl, hi, rfl⟩
 by_cases hlt : i < a.length
 rotate_left
 ·have hie : i = a.length := by omega
  subst hie
  rw [List.take_length]
  exact u_27
 have ha := List.getElem?_eq_getElem hlt
 generalize a[i] = x at ha
 have hsu := rq_succ (now := now) (f := ⟨us, ff, fm⟩) ha
 have hlen := rq_len now (a.take i) ⟨us, ff, fm⟩
 rw [List.length_take] at hlen
 obtain ⟨hfb2, hff2⟩ := hfa (a.take i)
 have ht := htr i x ha
 generalize rq now (a.take i) ⟨us, ff, fm⟩ = R at *
 obtain ⟨rj, rf, rd, rl⟩ := R
 dsimp only at hlen hfb2 hff2
 have cd := s_DropUser_ok (GG := GG) rf x.fName hff2 hfb2
 unfold rqStep at hsu
 dsimp only at hsu
 obtain ⟨xn, xa, xt⟩ := x
 dsimp only at cd hsu ht
 have hi4 := ind_rUser (dropF rf xn).fUsers
 have hdc : dropC rf = 0 ∨ dropC rf = 2 := by unfold dropC; split <;> simp
 have hi5 := ind_rUser rf.fUsers
 have hl1 : (strsD rd).length ≤ i := by rw [strsD_len]; omega
 have hl2 : (strsD rl).length ≤ i := by rw [strsD_len]; omega
 have hl3 : (rJob rj).length ≤ i := by rw [rJob_len]; omega
 by_cases hat : now < xa
 ·rw [if_pos hat] at hsu
  refine u_58 (Y2 ha hat) ?_
  refine ⟨a.length - (i + 1), by omega, i + 1, rfl, hlt, ?_⟩
  rw [hsu]
  refine u_62 ?_
  exact wrap_id (by omega) (by omega)
 ·rw [if_neg hat] at hsu
  generalize dropC rf = DC at *
  generalize dropF rf xn = DF at *
  obtain ⟨du, df, dm⟩ := DF
  obtain ⟨ru, rff, rfm⟩ := rf
  dsimp only at hi4 hi5
  rcases hdc with rfl | rfl
  ·rw [if_pos rfl] at hsu
   refine u_55 (Y2 ha hat) (Z1 cd) ?_
   refine ⟨a.length - (i + 1), by omega, i + 1, rfl, hlt, ?_⟩
   rw [hsu]
   refine u_63 ?_
   exact wrap_id (by omega) (by omega)
  ·rw [if_neg (by omega)] at hsu
   have hw1 : IntKind.i64.wrap (xt + 1) = xt + 1 := wrap_id (by omega) (by omega)
   by_cases h6 : xt + 1 = 6
   ·rw [if_pos h6] at hsu
    have hq6 : (xt + 1 == 6) = true := by simpa using h6
    refine u_55 (Y4 ha hat hw1 hq6) (Z1 cd) ?_
    refine ⟨a.length - (i + 1), by omega, i + 1, rfl, hlt, ?_⟩
    rw [hsu]
    refine u_63 ?_
    exact wrap_id (by omega) (by omega)
   ·rw [if_neg h6] at hsu
    have hq6 : (xt + 1 == 6) = false := by simpa using h6
    obtain ⟨hs1, hs2, hs3⟩ := shl_one (t := xt + 1) (by omega) (by omega)
    have hw2 : IntKind.i64.wrap (now + 2 ^ (xt + 1).toNat) = now + 2 ^ (xt + 1).toNat := wrap_id (by omega) (by omega)
    have hnn : 0 ≤ xt + 1 := by omega
    have hwu : IntKind.u64.wrap (xt + 1) = xt + 1 := by rw [IntKind.wrap_u64]; omega
    refine u_65 (Y8 ha hat hw1 hq6 hwu hnn hs1 hw2) (Z1 cd) ?_
    refine ⟨a.length - (i + 1), by omega, i + 1, rfl, hlt, ?_⟩
    rw [hsu]
    refine u_62 ?_
    refine ⟨wrap_id (by omega) (by omega), ?_⟩
    rw [Nat.min_eq_left (by omega), wrap_id (n := 2 ^ (xt + 1).toNat) (by omega) (by omega)]
    exact hw2
def loseW (w : GWorld) (n : Int) : GWorld := { w with fLost := if 1000000000 < w.fLost + n then 1000000000 else w.fLost + n }
def letHit (w : GWorld) (o : GOwned) : GWorld :=
 if qDropB w.fQueue o.fName w.fNow then { w with fQueue := qDropQ w.fQueue o.fName w.fNow } else loseW { w with fQueue := qDropQ w.fQueue o.fName w.fNow } 1
def letStep (id : Int) (s : GWorld × List GOwned) (o : GOwned) : GWorld × List GOwned :=
 if o.fLease = id then (letHit s.1 o, s.2) else (s.1, s.2 ++ [o])
def letFold (w : GWorld) (id : Int) (os : List GOwned) : GWorld × List GOwned := os.foldl (letStep id) (w, [])
def letOne (w : GWorld) (l : GLease) : GWorld := { (letFold w l.fId w.fOwned).1 with fOwned := (letFold w l.fId w.fOwned).2 }
def letAll (w : GWorld) (ls : List GLease) : GWorld := ls.foldl letOne w
def letRun (w : GWorld) : RQ := rq w.fNow w.fQueue.fJobs w.fFar
def letGo (w : GWorld) (ls : List GLease) : GWorld :=
 loseW { letAll w ls with fQueue := ⟨(letRun (letAll w ls)).jobs⟩, fFar := (letRun (letAll w ls)).far } (letRun (letAll w ls)).failed.length
structure LetOk (w : GWorld) : Prop where
 now : 0 ≤ w.fNow ∧ w.fNow ≤ 1000000000
 lost : 0 ≤ w.fLost ∧ w.fLost ≤ 1000000000
 qb : queueB w.fQueue = true
 qf : fitQ w.fQueue
 fb : farB w.fFar = true
 ff : fitFar w.fFar
 ol : w.fOwned.length ≤ 1048576
 on : ∀ o, o ∈ w.fOwned → o.fName.length ≤ 1048576
theorem qDrop_ok {q : GQueue} {s : List UInt8} (now : Int) (h : queueB q = true) (hf : fitQ q) (hs : s.length ≤ 1048576) : queueB (qDropQ q s now) = true ∧ fitQ (qDropQ q s now) := by
 unfold qDropQ
 split
 ·exact ⟨h, hf⟩
 ·split
  ·next h2 => exact ⟨h2, fitQ_app now h hf hs⟩
  ·exact ⟨h, hf⟩
theorem lose_ok {w : GWorld} {n : Int} (h : LetOk w) (hn : 0 ≤ n) : LetOk (loseW w n) := by
 obtain ⟨h1, h2, h3, h4, h5, h6, h7, h8⟩ := h
 refine ⟨h1, ?_, h3, h4, h5, h6, h7, h8⟩
 unfold loseW
 dsimp only
 split <;> omega
theorem hit_ok {w : GWorld} {o : GOwned} (h : LetOk w) (ho : o.fName.length ≤ 1048576) : LetOk (letHit w o) := by
 have hq := qDrop_ok w.fNow h.qb h.qf ho
 have h' : LetOk { w with fQueue := qDropQ w.fQueue o.fName w.fNow } := ⟨h.now, h.lost, hq.1, hq.2, h.fb, h.ff, h.ol, h.on⟩
 unfold letHit
 split
 ·exact h'
 ·exact lose_ok h' (by omega)
theorem letFold_succ {w : GWorld} {id : Int} {os : List GOwned} {i : Nat} {o : GOwned} (h : os[i]? = some o) : letFold w id (os.take (i + 1)) = letStep id (letFold w id (os.take i)) o := by
 unfold letFold; rw [List.take_add_one, h, List.foldl_append]; rfl
theorem letFold_snoc (w : GWorld) (id : Int) (l : List GOwned) (x : GOwned) : letFold w id (l ++ [x]) = letStep id (letFold w id l) x := by
 unfold letFold; rw [List.foldl_append]; rfl
theorem letFold_ok {w : GWorld} (id : Int) (h : LetOk w) (os : List GOwned) (ho : ∀ o, o ∈ os → o.fName.length ≤ 1048576) : LetOk (letFold w id os).1 ∧ (letFold w id os).2.length ≤ os.length ∧ ∀ o, o ∈ (letFold w id os).2 → o ∈ os := by
 induction os using snoc_ind with
 | h0 => exact ⟨h, Nat.le_refl _, fun o ho => ho⟩
 | h1 l x ih =>
  obtain ⟨i1, i2, i3⟩ := ih fun o h => ho o (List.mem_append_left _ h)
  rw [letFold_snoc, List.length_append]
  unfold letStep
  split
  ·exact ⟨hit_ok i1 (ho x (by simp)), by simp; omega, fun o h => List.mem_append_left _ (i3 o h)⟩
  ·refine ⟨i1, by simp; omega, fun o h => ?_⟩
   rcases List.mem_append.1 h with h | h
   ·exact List.mem_append_left _ (i3 o h)
   ·exact List.mem_append_right _ h
theorem letOne_ok {w : GWorld} (l : GLease) (h : LetOk w) : LetOk (letOne w l) := by
 obtain ⟨h1, h2, h3⟩ := letFold_ok l.fId h w.fOwned h.on
 exact ⟨h1.now, h1.lost, h1.qb, h1.qf, h1.fb, h1.ff, by unfold letOne; dsimp only; have := h.ol; omega, fun o ho => h.on o (h3 o ho)⟩
theorem letAll_ok {w : GWorld} (h : LetOk w) (ls : List GLease) : LetOk (letAll w ls) := by
 unfold letAll
 induction ls generalizing w with
 | nil => exact h
 | cons l r ih => exact ih (letOne_ok l h)
theorem letAll_succ {w : GWorld} {ls : List GLease} {i : Nat} {l : GLease} (h : ls[i]? = some l) : letAll w (ls.take (i + 1)) = letOne (letAll w (ls.take i)) l := by
 unfold letAll; rw [List.take_add_one, h, List.foldl_append]; rfl
theorem s_l16Lose_ok (w : GWorld) (n : Int) (h : 0 ≤ w.fLost ∧ w.fLost ≤ 1000000000) (hn : 0 ≤ n ∧ n ≤ 1000000000) :
  Valid PP GG 185 [.agg w.o, .d (.int .i64 n)] (.agg (loseW w n).o) [none, none] := by
 refine cv Tryz.func185 [.agg (loseW w n).o] ?_
 have hL : loseW w n = { w with fLost := if 1000000000 < w.fLost + n then 1000000000 else w.fLost + n } := rfl
 obtain ⟨a, b, c, ⟨tk⟩, ⟨bk⟩, ⟨us, ff, fm⟩, ⟨jb⟩, ow⟩ := w
 dsimp only at hL h
 have hi1 := ind_rToken tk
 have hi2 := ind_rLease bk
 have hi3 := ind_rUser us
 have hi4 := ind_rJob jb
 have hi5 := ind_rOwned ow
 have hw : IntKind.i64.wrap (c + n) = c + n := wrap_id (by omega) (by omega)
 by_cases hc : 1000000000 < c + n
 ·rw [if_pos hc] at hL
  rw [hL]
  exact u_20 (Y2 hw hc)
 ·rw [if_neg hc] at hL
  rw [hL]
  exact u_20 (Y2 hw hc)
theorem rOwned_one (l : List GOwned) (x : GOwned) : rOwned l ++ [x.row] = rOwned (l ++ [x]) := by simp [rOwned]
abbrev goVs (ls : List GLease) (i : Nat) : List (Nat × A) := [(1, .d (.slc 6 (rLease ls))), (2, .ptr 0 0), (4, .ptr 1 0), (7, .d (.int .i64 i))]
abbrev goOs (W : GWorld) : List (Nat × O) := [(0, .box [.d (.int .i64 W.fNow), .d (.int .i64 W.fNext), .d (.int .i64 W.fLost), .sl 2, .sl 3, .sl 4, .d (.int .i64 W.fFar.fFail), .d (.int .i64 W.fFar.fMade), .sl 5, .sl 6]), (1, .box [.d (.int .i64 0), .d (.int .i64 0), .d (.int .i64 0), .nil 1 7, .nil 0 6, .nil 0 2, .d (.int .i64 0), .d (.int .i64 0), .nil 0 3, .nil 0 2]), (2, .arr 0 1 7 (rToken W.fForest.fTokens)), (3, .arr 0 0 6 (rLease W.fBook.fLeases)), (4, .arr 0 0 2 (rUser W.fFar.fUsers)), (5, .arr 0 0 3 (rJob W.fQueue.fJobs)), (6, .arr 0 0 2 (rOwned W.fOwned))]
abbrev goOt (W : GWorld) (r : List GOwned) : List (Nat × O) := [(0, .box [.d (.int .i64 W.fNow), .d (.int .i64 W.fNext), .d (.int .i64 W.fLost), .sl 3, .sl 4, .sl 5, .d (.int .i64 W.fFar.fFail), .d (.int .i64 W.fFar.fMade), .sl 6, .sl 7]), (1, .box [.d (.int .i64 0), .d (.int .i64 0), .d (.int .i64 0), .nil 1 7, .nil 0 6, .nil 0 2, .d (.int .i64 0), .d (.int .i64 0), .nil 0 3, .nil 0 2]), (2, .arr 0 0 2 (rOwned r)), (3, .arr 0 1 7 (rToken W.fForest.fTokens)), (4, .arr 0 0 6 (rLease W.fBook.fLeases)), (5, .arr 0 0 2 (rUser W.fFar.fUsers)), (6, .arr 0 0 3 (rJob W.fQueue.fJobs)), (7, .arr 0 0 2 (rOwned W.fOwned))]
theorem s_l16LetGo_ok [MaxL GG] (w : GWorld) (ls : List GLease) (h : LetOk w) (hls : ls.length ≤ 1048576) :
  Valid PP GG 161 [.agg w.o, .d (.slc 6 (rLease ls))] (.tup [.agg (letGo w ls).o, .own 0 1 (strsD (letRun (letAll w ls)).done), .own 0 1 (strsD (letRun (letAll w ls)).failed)]) [none, none] := by
 refine cv Tryz.func161 [.agg (letGo w ls).o, .own 0 1 (strsD (letRun (letAll w ls)).done), .own 0 1 (strsD (letRun (letAll w ls)).failed)] ?_
 refine u_28 ?_
 refine W_loop (fun n st => ∃ i : Nat, n = ls.length - i ∧ i ≤ ls.length ∧ st = ⟨[], goVs ls i, goOs (letAll w (ls.take i)), 7⟩) _ ⟨0, rfl, by omega, ?_⟩ ?_
 ·obtain ⟨a, b, c, ⟨tk⟩, ⟨bk⟩, ⟨us, ff, fm⟩, ⟨jb⟩, ow⟩ := w
  exact u_66
 rintro n st ⟨i, rfl, hi, rfl⟩
 by_cases hlt : i < ls.length
 ·have hli := List.getElem?_eq_getElem hlt
  generalize ls[i] = l at hli
  have hsu := letAll_succ (w := w) hli
  have hW := letAll_ok h (ls.take i)
  generalize letAll w (ls.take i) = W at *
  unfold letOne at hsu
  have hfo := fun os => letFold_ok (w := W) l.fId hW os
  repeat' (first | refine W_seq ?_ | refine W_skip ?_ | refine W_block ?_ | refine W_exit ?_ | refine pick_pos rfl ?_ | refine pick_neg rfl ?_ | ((first | refine W_regP fun K hK => ?_ | refine W_regPD fun K hK => ?_ | refine W_ret ?_); simp [Fin, litA]) | (with_reducible refine hK _ ?_; clear hK K) | (with_reducible refine goL_split (fun h => ?_) (fun h => ?_) <;> first | (exfalso; simp at h; first | done | omega | contradiction) | ((try simp at h); simp [litA])) | with_reducible refine And.intro ?_ ?_ | with_reducible exact okay_rfl rfl | with_reducible assumption | (refine W_cond rfl (fun h => ?_) (fun h => ?_) <;> first | (exfalso; simp at h; first | done | omega | contradiction) | (exfalso; simp_all; done) | (try simp at h)) | omega)
  refine W_loop (fun n st => ∃ j : Nat, n = W.fOwned.length - j ∧ j ≤ W.fOwned.length ∧ st = ⟨[], goVs ls i ++ [(8, .sl 2), (9, .d (.int .i64 j))], goOt { (letFold W l.fId (W.fOwned.take j)).1 with fOwned := W.fOwned } (letFold W l.fId (W.fOwned.take j)).2, 8⟩) _ ⟨0, rfl, by omega, ?_⟩ ?_
  ·simp [gc, closeN, liveA, gcV, gcO, renA, renAs, renO, namesAs, namesA, namesO, posn, letFold, rOwned]
  rintro n st ⟨j, rfl, hj, rfl⟩
  by_cases hjt : j < W.fOwned.length
  ·have hoj := List.getElem?_eq_getElem hjt
   have hom := List.getElem_mem hjt
   generalize W.fOwned[j] = o at hoj hom
   have hsj := letFold_succ (w := W) (id := l.fId) hoj
   obtain ⟨hV, hrl, -⟩ := hfo (W.fOwned.take j) fun o ho => hW.on o (List.mem_of_mem_take ho)
   rw [List.length_take] at hrl
   have hol := hW.ol
   have hon := hW.on o hom
   have hi5 := ind_rOwned W.fOwned
   generalize letFold W l.fId (W.fOwned.take j) = S at *
   obtain ⟨V, r⟩ := S
   dsimp only at hV hrl
   unfold letStep at hsj
   dsimp only at hsj
   have hr2 : (rOwned r).length ≤ j := by rw [rOwned_len]; omega
   have hi6 := ind_rOwned r
   obtain ⟨on, ol⟩ := o
   by_cases hne : on = l.fId
   ·rw [if_pos hne] at hsj
    have cqd := s_QueueDrop_ok (GG := GG) V.fQueue ol V.fNow hV.qf hon hV.qb
    have clo := s_l16Lose_ok (GG := GG) { V with fQueue := qDropQ V.fQueue ol V.fNow, fOwned := W.fOwned } 1 hV.lost ⟨by omega, by omega⟩
    unfold letHit at hsj
    dsimp only at hsj
    subst hne
    obtain ⟨Vn, Vx, Vl, ⟨Vf⟩, ⟨Vb⟩, ⟨Vu, Vfl, Vfm⟩, ⟨Vq⟩, Vo⟩ := V
    dsimp only at cqd clo hsj
    have hi1 := ind_rToken Vf
    have hi2 := ind_rLease Vb
    have hi3 := ind_rUser Vu
    generalize qDropB ⟨Vq⟩ ol Vn = DB at *
    generalize qDropQ ⟨Vq⟩ ol Vn = DQ at *
    obtain ⟨dj⟩ := DQ
    have hi4 := ind_rJob dj
    cases DB
    ·simp only [Bool.false_eq_true, if_false] at hsj
     repeat' (first | refine W_seq ?_ | refine W_skip ?_ | refine W_block ?_ | refine W_exit ?_ | refine pick_pos rfl ?_ | refine pick_neg rfl ?_ | ((first | refine W_regP fun K hK => ?_ | refine W_regPD fun K hK => ?_ | refine W_ret ?_ | with_reducible refine callQ (cqd) ?_ | with_reducible refine callQ (clo) ?_); simp [Fin, hli, hoj, limit, loseW]) | (with_reducible refine hK _ ?_; clear hK K) | (with_reducible refine goL_split (fun h => ?_) (fun h => ?_) <;> first | (exfalso; simp at h; first | done | omega | contradiction) | ((try simp at h); simp [hli, hoj, limit, loseW])) | with_reducible refine And.intro ?_ ?_ | with_reducible exact okay_rfl rfl | with_reducible assumption | (refine W_cond rfl (fun h => ?_) (fun h => ?_) <;> first | (exfalso; simp at h; first | done | omega | contradiction) | (exfalso; simp_all; done) | (try simp at h)) | omega)
     refine ⟨W.fOwned.length - (j + 1), by omega, j + 1, rfl, hjt, ?_⟩
     rw [hsj]
     refine u_67 ?_
     exact wrap_id (by omega) (by omega)
    ·simp only [if_true] at hsj
     refine u_55 (Y2 hli hoj) (Z1 cqd) ?_
     refine ⟨W.fOwned.length - (j + 1), by omega, j + 1, rfl, hjt, ?_⟩
     rw [hsj]
     refine u_25 ?_
     exact wrap_id (by omega) (by omega)
   ·rw [if_neg hne] at hsj
    refine u_58 (Y3 hli hoj hne) ?_
    refine ⟨W.fOwned.length - (j + 1), by omega, j + 1, rfl, hjt, ?_⟩
    rw [hsj]
    simp [gc, closeN, liveA, gcV, gcO, renA, renAs, renO, namesAs, namesA, namesO, posn, ← rOwned_one]
    exact wrap_id (by omega) (by omega)
  ·have hje : j = W.fOwned.length := by omega
   subst hje
   rw [List.take_length]
   generalize letFold W l.fId W.fOwned = S at *
   obtain ⟨V, r⟩ := S
   dsimp only at hsu
   have hi6 := ind_rOwned r
   refine u_28 ?_
   refine ⟨ls.length - (i + 1), by omega, i + 1, rfl, hlt, ?_⟩
   rw [hsu]
   refine u_25 ?_
   exact wrap_id (by omega) (by omega)
 ·have hie : i = ls.length := by omega
  subst hie
  rw [List.take_length]
  have hW := letAll_ok h ls
  have hgo : letGo w ls = loseW { letAll w ls with fQueue := ⟨(letRun (letAll w ls)).jobs⟩, fFar := (letRun (letAll w ls)).far } (letRun (letAll w ls)).failed.length := rfl
  have cru := s_RunQueue_ok (GG := GG) (letAll w ls).fQueue (letAll w ls).fFar (letAll w ls).fNow hW.qf hW.ff hW.qb hW.fb hW.now
  have hlr : letRun (letAll w ls) = rq (letAll w ls).fNow (letAll w ls).fQueue.fJobs (letAll w ls).fFar := rfl
  have hln := (rq_len (letAll w ls).fNow (letAll w ls).fQueue.fJobs (letAll w ls).fFar).2.2
  have hql := hW.qf.1
  rw [← hlr] at cru hln
  generalize letAll w ls = W at *
  generalize letRun W = R at *
  obtain ⟨rj, ⟨ru, rfl', rfm⟩, rd, rf⟩ := R
  obtain ⟨Wn, Wx, Wl, ⟨Wf⟩, ⟨Wb⟩, ⟨Wu, Wfl, Wfm⟩, ⟨Wq⟩, Wo⟩ := W
  dsimp only at *
  have clo := s_l16Lose_ok (GG := GG) ⟨Wn, Wx, Wl, ⟨Wf⟩, ⟨Wb⟩, ⟨ru, rfl', rfm⟩, ⟨rj⟩, Wo⟩ rf.length hW.lost ⟨by omega, by omega⟩
  rw [← hgo] at clo
  generalize letGo w ls = Z at *
  obtain ⟨Zn, Zx, Zl, ⟨Zf⟩, ⟨Zb⟩, ⟨Zu, Zfl, Zfm⟩, ⟨Zq⟩, Zo⟩ := Z
  have hi1 := ind_rToken Wf
  have hi2 := ind_rLease Wb
  have hi3 := ind_rUser ru
  have hi4 := ind_rJob rj
  have hi5 := ind_rOwned Wo
  have hj1 := ind_rToken Zf
  have hj2 := ind_rLease Zb
  have hj3 := ind_rUser Zu
  have hj4 := ind_rJob Zq
  have hj5 := ind_rOwned Zo
  have hj6 := ind_strs rd
  have hj7 := ind_strs rf
  exact u_31 (Z2 cru clo)
def dropL (b : GBook) (id : Int) : GBook := ⟨b.fLeases.filter fun l => !(decide (l.fId = id))⟩
theorem s_DropLease_ok [MaxL GG] (b : GBook) (id : Int) (hf : fitB b) (hb : bookB b = true) :
  Valid PP GG 160 [.agg b.c, .d (.int .i64 id)] (.tup [.agg (dropL b id).o, .d (.bool (hasLease b id))]) [none, none] := by
 refine cv Tryz.func160 [.agg (dropL b id).o, .d (.bool (hasLease b id))] ?_
 have cfl := s_FindLease_ok (GG := GG) b id hf
 rw [hb, Bool.true_and] at cfl
 have hD : dropL b id = ⟨b.fLeases.filter fun l => !(decide (l.fId = id))⟩ := rfl
 have hH : hasLease b id = b.fLeases.any fun l => decide (l.fId = id) := rfl
 have ccp := s_l09Copy_ok (GG := GG) b.fLeases (by have := hf.1; omega)
 have hl := hf.1
 obtain ⟨a⟩ := b
 dsimp only at hD hH ccp hl
 have hi3 := ind_rLease a
 generalize findL ⟨a⟩ id = F at *
 obtain ⟨f1, f2, f3, f4, f5, f6⟩ := F
 generalize dropL ⟨a⟩ id = DL at *
 generalize hasLease ⟨a⟩ id = HL at *
 cases HL
 ·have hn : (a.filter fun l => !(decide (l.fId = id))) = a := by
   rw [List.filter_eq_self]
   intro x hx
   have := List.any_eq_false.1 hH.symm x hx
   simpa using this
  rw [hn] at hD
  subst hD
  exact u_31 (Z2 cfl ccp)
 ·subst hD
  refine u_1 ?_
  refine u_11 (Z1 cfl) ?_
  refine W_seq (W_seq ?_)
  refine u_5 ?_
  refine W_cond rfl (fun h => by simp at h) (fun h => W_skip ?_)
  refine u_1 ?_
  refine W_nilP 8 0 rfl rfl rfl ?_
  refine u_28 ?_
  refine W_loop (fun n st => ∃ i : Nat, n = a.length - i ∧ i ≤ a.length ∧
   st = ⟨[], [(1, .d (.int .i64 id)), (2, .ptr 0 0), (4, .ptr 1 0), (8, .ptr 2 0), (9, .d (.int .i64 i))], [(0, .box [.d (.slc 6 (rLease a))]), (1, .box [.nil 0 6]), (2, .box [.sl 3]), (3, .arr 0 0 6 (rLease ((a.take i).filter fun l => !(decide (l.fId = id)))))], 4⟩) _ ⟨0, rfl, by omega, ?_⟩ ?_
  ·exact u_56
  rintro n st ⟨i, rfl, hi', rfl⟩
  by_cases hlt : i < a.length
  rotate_left
  ·have hie : i = a.length := by omega
   subst hie
   rw [List.take_length]
   have hi4 := ind_rLease (a.filter fun l => !(decide (l.fId = id)))
   generalize (a.filter fun l => !(decide (l.fId = id))) = b at *
   exact u_27
  have ha := List.getElem?_eq_getElem hlt
  generalize a[i] = x at ha
  have hsc := filter_succ (p := fun l : GLease => !(decide (l.fId = id))) (f := GLease.row) ha
  have hlen := filter_take_len (fun l : GLease => !(decide (l.fId = id))) GLease.row a i
  rw [show ∀ l : List GLease, (l.filter fun l => !(decide (l.fId = id))).map GLease.row = rLease (l.filter fun l => !(decide (l.fId = id))) from fun l => rfl] at hsc hlen
  rw [show ∀ l : List GLease, (l.filter fun l => !(decide (l.fId = id))).map GLease.row = rLease (l.filter fun l => !(decide (l.fId = id))) from fun l => rfl] at hsc
  generalize rLease ((a.take i).filter fun l => !(decide (l.fId = id))) = L at *
  obtain ⟨x1, x2, x3, x4, x5, x6⟩ := x
  dsimp only at hsc
  by_cases hx : x1 = id
  ·subst hx
   rw [decide_eq_true rfl] at hsc
   simp only [Bool.not_true, Bool.false_eq_true, if_false, List.append_nil] at hsc
   refine u_21 ha ?_
   refine ⟨a.length - (i + 1), by omega, i + 1, rfl, hlt, ?_⟩
   rw [hsc]
   refine u_25 ?_
   exact wrap_id (by omega) (by omega)
  ·rw [decide_eq_false hx] at hsc
   simp only [Bool.not_false, if_true] at hsc
   refine u_58 (Y2 ha hx) ?_
   refine ⟨a.length - (i + 1), by omega, i + 1, rfl, hlt, ?_⟩
   rw [hsc]
   refine u_25 ?_
   exact wrap_id (by omega) (by omega)
theorem letFold_skip {id : Int} {os : List GOwned} (h : ∀ o, o ∈ os → o.fLease ≠ id) (v : GWorld) (r : List GOwned) : os.foldl (letStep id) (v, r) = (v, r ++ os) := by
 induction os generalizing r with
 | nil => rw [List.append_nil]; rfl
 | cons a t ih =>
  rw [List.foldl_cons]
  have : letStep id (v, r) a = (v, r ++ [a]) := by unfold letStep; rw [if_neg (h a (by simp))]
  rw [this, ih (fun o ho => h o (by simp [ho])), List.append_assoc]
  rfl
theorem letOne_miss {w : GWorld} {l : GLease} (h : ∀ o, o ∈ w.fOwned → o.fLease ≠ l.fId) : letOne w l = w := by
 unfold letOne letFold
 rw [letFold_skip h]
 rfl
def ownInc (w : GWorld) : Prop := w.fOwned.Pairwise (fun y x => y.fLease < x.fLease)
theorem own_split {os : List GOwned} (inc : os.Pairwise (fun y x => y.fLease < x.fLease)) {i : Nat} {o : GOwned} (hi : os[i]? = some o) : (∀ y, y ∈ os.take i → y.fLease < o.fLease) ∧ (∀ y, y ∈ os.drop (i + 1) → o.fLease < y.fLease) ∧ os = os.take i ++ o :: os.drop (i + 1) := by
 obtain ⟨h1, rfl⟩ := List.getElem?_eq_some_iff.1 hi
 have e : os = os.take i ++ os[i] :: os.drop (i + 1) := by rw [← List.drop_eq_getElem_cons h1, List.take_append_drop]
 have inc2 := inc
 rw [e, List.pairwise_append, List.pairwise_cons] at inc2
 exact ⟨fun y hy => inc2.2.2 y hy _ (List.mem_cons_self ..), fun y hy => inc2.2.1.1 y hy, e⟩
theorem letOne_hit {w : GWorld} {l : GLease} {i : Nat} {o : GOwned} (inc : ownInc w) (hi : w.fOwned[i]? = some o) (ho : o.fLease = l.fId) : letOne w l = { letHit w o with fOwned := w.fOwned.take i ++ w.fOwned.drop (i + 1) } := by
 obtain ⟨h1, h2, h3⟩ := own_split inc hi
 have e : letFold w l.fId w.fOwned = (letHit w o, w.fOwned.take i ++ w.fOwned.drop (i + 1)) := by
  have e1 : (w.fOwned.take i).foldl (letStep l.fId) (w, []) = (w, w.fOwned.take i) := letFold_skip (fun y hy => by have := h1 y hy; omega) w []
  have e2 := letFold_skip (id := l.fId) (os := w.fOwned.drop (i + 1)) (fun y hy => by have := h2 y hy; omega) (letHit w o) (w.fOwned.take i)
  have e3 : letStep l.fId (w, w.fOwned.take i) o = (letHit w o, w.fOwned.take i) := by unfold letStep; rw [if_pos ho]
  have e4 : letFold w l.fId w.fOwned = (w.fOwned.take i ++ o :: w.fOwned.drop (i + 1)).foldl (letStep l.fId) (w, []) := by rw [← h3]; rfl
  rw [e4, List.foldl_append, e1, List.foldl_cons, e3, e2]
 unfold letOne
 rw [e]
theorem letOne_inc {w : GWorld} (l : GLease) (inc : ownInc w) : ownInc (letOne w l) := by
 by_cases hm : ∃ (j : Nat) (o : GOwned), w.fOwned[j]? = some o ∧ o.fLease = l.fId
 ·obtain ⟨j, o, hj, ho⟩ := hm
  rw [letOne_hit inc hj ho]
  unfold ownInc at inc ⊢
  dsimp only
  refine List.Pairwise.sublist ?_ inc
  obtain ⟨-, -, h3⟩ := own_split inc hj
  conv => rhs; rw [h3]
  exact List.Sublist.append_left (List.sublist_cons_self _ _) _
 ·rw [letOne_miss]
  ·exact inc
  ·intro o ho e
   obtain ⟨j, hj, rfl⟩ := List.mem_iff_getElem.1 ho
   exact hm ⟨j, _, List.getElem?_eq_getElem hj, e⟩
theorem letAll_inc {w : GWorld} (inc : ownInc w) (ls : List GLease) : ownInc (letAll w ls) := by
 unfold letAll
 induction ls generalizing w with
 | nil => exact inc
 | cons l r ih => exact ih (letOne_inc l inc)
theorem release_c1_ok (t : GOwned) (l : GLease) : Valid PP GG 108 [.agg t.c, .rp l.row] (.d (.bool (decide (t.fLease = l.fId)))) [none] := by
 refine cv Tryz.func108 [.d (.bool (decide (t.fLease = l.fId)))] ?_
 refine u_28 ?_
 rfl
abbrev reVs (ls : List GLease) (i : Nat) : List (Nat × A) := [(0, .ptr 0 0), (15, .d (.slc 6 (rLease ls))), (16, .d (.int .i64 ls.length)), (17, .d (.int .i64 i))]
abbrev reOs (W : GWorld) : List (Nat × O) := [(0, .box [.d (.int .i64 W.fNow), .d (.int .i64 W.fNext), .d (.int .i64 W.fLost), .sl 1, .sl 2, .sl 3, .d (.int .i64 W.fFar.fFail), .d (.int .i64 W.fFar.fMade), .sl 4, .sl 5]), (1, .arr 0 1 7 (rToken W.fForest.fTokens)), (2, .arr 0 0 6 (rLease W.fBook.fLeases)), (3, .arr 0 0 2 (rUser W.fFar.fUsers)), (4, .arr 0 0 3 (rJob W.fQueue.fJobs)), (5, .arr 0 0 2 (rOwned W.fOwned))]
theorem release_ok [MaxL GG] (w : GWorld) (ls : List GLease) (h : LetOk w) (inc : ownInc w) (hls : ls.length ≤ 1048576) :
  Valid PP GG 58 [.box w.o, .d (.slc 6 (rLease ls))] (.tup [.own 0 1 (strsD (letRun (letAll w ls)).done), .own 0 1 (strsD (letRun (letAll w ls)).failed)]) [some (.box (letGo w ls).o), none] := by
 refine cv Tryz.func58 [.own 0 1 (strsD (letRun (letAll w ls)).done), .own 0 1 (strsD (letRun (letAll w ls)).failed)] ?_
 refine u_28 ?_
 refine W_loop (fun n st => ∃ i : Nat, n = ls.length - i ∧ i ≤ ls.length ∧ st = ⟨[], reVs ls i, reOs (letAll w (ls.take i)), 6⟩) _ ⟨0, rfl, by omega, ?_⟩ ?_
 ·obtain ⟨a, b, c, ⟨tk⟩, ⟨bk⟩, ⟨us, ff, fm⟩, ⟨jb⟩, ow⟩ := w
  exact u_66
 rintro n st ⟨i, rfl, hi, rfl⟩
 by_cases hlt : i < ls.length
 ·have hli := List.getElem?_eq_getElem hlt
  generalize ls[i] = l at hli
  have hsu := letAll_succ (w := w) hli
  have hW := letAll_ok h (ls.take i)
  have hinc := letAll_inc inc (ls.take i)
  generalize letAll w (ls.take i) = W at *
  have hol := hW.ol
  have cix := IndexFuncOwned_ok (GG := GG) W.fOwned 108 [l.row] (fun t => decide (t.fLease = l.fId)) (by omega) fun x _ => release_c1_ok x l
  have hi5 := ind_rOwned W.fOwned
  by_cases hm : ∃ (j : Nat) (o : GOwned), W.fOwned[j]? = some o ∧ o.fLease = l.fId
  ·obtain ⟨j, o, hj, ho⟩ := hm
   obtain ⟨hs1, hs2, hs3⟩ := own_split hinc hj
   rw [idxF_hit hj (fun y hy => by have := hs1 y hy; exact decide_eq_false (by omega)) (decide_eq_true ho)] at cix
   rw [letOne_hit hinc hj ho] at hsu
   clear hs1 hs2 hs3
   have hjl := (List.getElem?_eq_some_iff.1 hj).1
   have hon := hW.on o (List.mem_of_getElem? hj)
   have cqd := queueDrop_ok (GG := GG) W.fQueue o.fName W.fNow hW.qf hon hW.qb
   have cdl := DeleteOwned_ok (GG := GG) (rOwned W.fOwned) j (j + 1) (by omega) (by rw [rOwned_len]; omega)
   rw [rOwned_del] at cdl
   have hw : IntKind.i64.wrap ((j : Int) + 1) = (j : Int) + 1 := wrap_id (by omega) (by omega)
   rw [show ((j + 1 : Nat) : Int) = (j : Int) + 1 by omega] at cdl
   have hlo := hW.lost
   have hi6 := ind_rOwned (W.fOwned.take j ++ W.fOwned.drop (j + 1))
   generalize W.fOwned.take j ++ W.fOwned.drop (j + 1) = os' at *
   unfold letHit at hsu
   obtain ⟨on, ol⟩ := o
   obtain ⟨Vn, Vx, Vl, ⟨Vf⟩, ⟨Vb⟩, ⟨Vu, Vfl, Vfm⟩, ⟨Vq⟩, Vo⟩ := W
   dsimp only at *
   have hi1 := ind_rToken Vf
   have hi2 := ind_rLease Vb
   have hi3 := ind_rUser Vu
   generalize qDropB ⟨Vq⟩ ol Vn = DB at *
   generalize qDropQ ⟨Vq⟩ ol Vn = DQ at *
   obtain ⟨dj⟩ := DQ
   have hi4 := ind_rJob dj
   cases DB
   ·simp only [Bool.false_eq_true, if_false] at hsu
    have hw2 : IntKind.i64.wrap (Vl + 1) = Vl + 1 := wrap_id (by omega) (by omega)
    refine u_30 (Y4 hli hj hw hw2) (Z3 cix cqd cdl) ?_
    refine ⟨ls.length - (i + 1), by omega, i + 1, rfl, hlt, ?_⟩
    rw [hsu]
    refine u_67 ?_
    exact wrap_id (by omega) (by omega)
   ·simp only [if_true] at hsu
    refine u_30 (Y3 hli hj hw) (Z3 cix cqd cdl) ?_
    refine ⟨ls.length - (i + 1), by omega, i + 1, rfl, hlt, ?_⟩
    rw [hsu]
    refine u_25 ?_
    exact wrap_id (by omega) (by omega)
  ·have hno : ∀ o, o ∈ W.fOwned → o.fLease ≠ l.fId := by
    intro o ho e
    obtain ⟨j, hj, rfl⟩ := List.mem_iff_getElem.1 ho
    exact hm ⟨j, _, List.getElem?_eq_getElem hj, e⟩
   rw [idxF_miss (fun o ho => decide_eq_false (hno o ho))] at cix
   rw [letOne_miss hno] at hsu
   refine u_30 hli (Z1 cix) ?_
   refine ⟨ls.length - (i + 1), by omega, i + 1, rfl, hlt, ?_⟩
   rw [hsu]
   refine u_25 ?_
   exact wrap_id (by omega) (by omega)
 ·have hie : i = ls.length := by omega
  subst hie
  rw [List.take_length]
  have hW := letAll_ok h ls
  have hgo : letGo w ls = { letAll w ls with fQueue := ⟨(letRun (letAll w ls)).jobs⟩, fFar := (letRun (letAll w ls)).far, fLost := if 1000000000 < (letAll w ls).fLost + (letRun (letAll w ls)).failed.length then 1000000000 else (letAll w ls).fLost + (letRun (letAll w ls)).failed.length } := rfl
  have cru := runQueue_ok (GG := GG) (letAll w ls).fQueue (letAll w ls).fFar (letAll w ls).fNow hW.qf hW.ff hW.qb hW.fb hW.now
  have hlr : letRun (letAll w ls) = rq (letAll w ls).fNow (letAll w ls).fQueue.fJobs (letAll w ls).fFar := rfl
  have hln := (rq_len (letAll w ls).fNow (letAll w ls).fQueue.fJobs (letAll w ls).fFar).2.2
  have hql := hW.qf.1
  have hlo := hW.lost
  rw [← hlr] at cru hln
  generalize letAll w ls = W at *
  generalize letRun W = R at *
  obtain ⟨rj, ⟨ru, rfl', rfm⟩, rd, rf⟩ := R
  obtain ⟨Wn, Wx, Wl, ⟨Wf⟩, ⟨Wb⟩, ⟨Wu, Wfl, Wfm⟩, ⟨Wq⟩, Wo⟩ := W
  dsimp only at *
  have hi1 := ind_rToken Wf
  have hi2 := ind_rLease Wb
  have hi3 := ind_rUser ru
  have hi4 := ind_rJob rj
  have hi5 := ind_rOwned Wo
  have hj6 := ind_strs rd
  have hj7 := ind_strs rf
  have hw : IntKind.i64.wrap (Wl + rf.length) = Wl + rf.length := wrap_id (by omega) (by omega)
  have hsl := strsD_len rf
  clear hlr
  by_cases hc : 1000000000 < Wl + rf.length
  ·rw [if_pos hc] at hgo
   rw [hgo]
   clear hgo
   exact u_29 (Y3 hw hc hsl) (Z1 cru)
  ·rw [if_neg hc] at hgo
   rw [hgo]
   clear hgo
   exact u_29 (Y3 hw hc hsl) (Z1 cru)
theorem inc_split {α : Type} {key : α → Int} {os : List α} (inc : os.Pairwise (fun y x => key y < key x)) {i : Nat} {o : α} (hi : os[i]? = some o) : (∀ y, y ∈ os.take i → key y < key o) ∧ (∀ y, y ∈ os.drop (i + 1) → key o < key y) ∧ os = os.take i ++ o :: os.drop (i + 1) := by
 obtain ⟨h1, rfl⟩ := List.getElem?_eq_some_iff.1 hi
 have e : os = os.take i ++ os[i] :: os.drop (i + 1) := by rw [← List.drop_eq_getElem_cons h1, List.take_append_drop]
 have inc2 := inc
 rw [e, List.pairwise_append, List.pairwise_cons] at inc2
 exact ⟨fun y hy => inc2.2.2 y hy _ (List.mem_cons_self ..), fun y hy => inc2.2.1.1 y hy, e⟩
theorem filter_cut {α : Type} {key : α → Int} {l : List α} (inc : l.Pairwise (fun y x => key y < key x)) {i : Nat} {x : α} {id : Int} (hi : l[i]? = some x) (hx : key x = id) : (l.filter fun y => !(decide (key y = id))) = l.take i ++ l.drop (i + 1) := by
 obtain ⟨h1, h2, h3⟩ := inc_split inc hi
 have e1 : ((l.take i).filter fun y => !(decide (key y = id))) = l.take i := by
  rw [List.filter_eq_self]; intro y hy; have := h1 y hy; simp; omega
 have e2 : ((l.drop (i + 1)).filter fun y => !(decide (key y = id))) = l.drop (i + 1) := by
  rw [List.filter_eq_self]; intro y hy; have := h2 y hy; simp; omega
 have e3 : (l.filter fun y => !(decide (key y = id))) = ((l.take i ++ x :: l.drop (i + 1)).filter fun y => !(decide (key y = id))) := by rw [← h3]
 rw [e3, List.filter_append, List.filter_cons, e1, e2, if_neg (by simp [hx])]
theorem letOk_of {w : GWorld} (hf : fitW w) (hb : worldB w = true) (b : GBook) : LetOk { w with fBook := b } ∧ ownInc { w with fBook := b } ∧ bookB w.fBook = true := by
 unfold worldB at hb
 simp only [Bool.and_eq_true] at hb
 obtain ⟨⟨⟨⟨⟨⟨⟨⟨⟨h1, h2⟩, h3⟩, h4⟩, h5⟩, h6⟩, h7⟩, h8⟩, h9⟩, h10⟩ := hb
 obtain ⟨f1, f2, f3, f4, f5, f6⟩ := hf
 exact ⟨⟨inB_true h1, inB_true h3, h7, f4, h6, f3, f5, f6⟩, own_inc h10, h5⟩
def cutB (w : GWorld) (id : Int) : Bool := worldB w && hasLease w.fBook id
def cutL (w : GWorld) (id : Int) : GLease := (w.fBook.fLeases.find? fun l => decide (l.fId = id)).getD zLease
def cutW (w : GWorld) (id : Int) : GWorld := if cutB w id then letGo { w with fBook := dropL w.fBook id } [cutL w id] else w
theorem s_CutLease_ok [MaxL GG] (w : GWorld) (id : Int) (hf : fitW w) :
  Valid PP GG 135 [.agg w.c, .d (.int .i64 id)] (.tup [.agg (cutW w id).o, .d (.bool (cutB w id))]) [none, none] := by
 refine cv Tryz.func135 [.agg (cutW w id).o, .d (.bool (cutB w id))] ?_
 have cw := s_WorldOk_ok (GG := GG) w hf
 have ccp := s_l16Copy_ok (GG := GG) w hf
 have cfl := s_FindLease_ok (GG := GG) w.fBook id hf.2.1
 have hW : cutW w id = if cutB w id then letGo { w with fBook := dropL w.fBook id } [cutL w id] else w := rfl
 have hB : cutB w id = (worldB w && hasLease w.fBook id) := rfl
 have hi1 := ind_rToken w.fForest.fTokens
 have hi2 := ind_rLease w.fBook.fLeases
 have hi3 := ind_rUser w.fFar.fUsers
 have hi4 := ind_rJob w.fQueue.fJobs
 have hi5 := ind_rOwned w.fOwned
 cases hWB : worldB w with
 | false =>
  rw [hWB, Bool.false_and] at hB
  rw [hB] at hW ⊢
  simp only [Bool.false_eq_true, if_false] at hW
  rw [hW]
  rw [hWB] at cw
  clear hW hB cfl
  exact u_31 (Z2 ccp cw)
 | true =>
  obtain ⟨hL, hI, hbb⟩ := letOk_of hf hWB (dropL w.fBook id)
  rw [hWB, Bool.true_and] at hB
  rw [hbb, Bool.true_and] at cfl
  rw [hWB] at cw
  have hF : findL w.fBook id = cutL w id := by unfold findL cutL; rw [if_pos hbb]
  rw [hF] at cfl
  cases hH : hasLease w.fBook id with
  | false =>
   rw [hH] at hB cfl
   rw [hB] at hW ⊢
   simp only [Bool.false_eq_true, if_false] at hW
   rw [hW]
   clear hW hB hF hL hI
   generalize cutL w id = F at *
   obtain ⟨f1, f2, f3, f4, f5, f6⟩ := F
   exact u_31 (Z3 ccp cw cfl)
  | true =>
   rw [hH] at hB cfl
   rw [hB] at hW ⊢
   simp only [if_true] at hW
   have cdl := s_DropLease_ok (GG := GG) w.fBook id hf.2.1 hbb
   rw [hH] at cdl
   have cgo := s_l16LetGo_ok (GG := GG) { w with fBook := dropL w.fBook id } [cutL w id] hL (by simp)
   rw [← hW, show rLease [cutL w id] = [(cutL w id).row] from rfl] at cgo
   clear hW hB hF hL hI
   generalize letRun (letAll { w with fBook := dropL w.fBook id } [cutL w id]) = R at *
   generalize cutW w id = Z at *
   generalize cutL w id = F at *
   generalize hDL : dropL w.fBook id = DL at *
   clear hDL
   obtain ⟨f1, f2, f3, f4, f5, f6⟩ := F
   obtain ⟨dl⟩ := DL
   obtain ⟨Zn, Zx, Zl, ⟨Zf⟩, ⟨Zb⟩, ⟨Zu, Zfl, Zfm⟩, ⟨Zq⟩, Zo⟩ := Z
   have hi6 := ind_rLease dl
   have hj1 := ind_rToken Zf
   have hj2 := ind_rLease Zb
   have hj3 := ind_rUser Zu
   have hj4 := ind_rJob Zq
   have hj5 := ind_rOwned Zo
   have hj6 := ind_strs R.done
   have hj7 := ind_strs R.failed
   repeat' (first | refine W_seq ?_ | refine W_skip ?_ | refine W_block ?_ | refine W_exit ?_ | refine pick_pos rfl ?_ | refine pick_neg rfl ?_ | ((first | refine W_regP fun K hK => ?_ | refine W_regPD fun K hK => ?_ | refine W_ret ?_ | with_reducible refine callQ (ccp) ?_ | with_reducible refine callQ (cw) ?_ | with_reducible refine callQ (cfl) ?_ | with_reducible refine callQ (cdl) ?_ | with_reducible refine callQ (cgo) ?_); simp [Fin, litA]) | (with_reducible refine hK _ ?_; clear hK K) | (with_reducible refine goL_split (fun h => ?_) (fun h => ?_) <;> first | (exfalso; simp at h; first | done | omega | contradiction) | ((try simp at h); simp [litA])) | with_reducible refine And.intro ?_ ?_ | with_reducible exact okay_rfl rfl | with_reducible assumption | (refine W_cond rfl (fun h => ?_) (fun h => ?_) <;> first | (exfalso; simp at h; first | done | omega | contradiction) | (exfalso; simp_all; done) | (try simp at h)) | omega)
theorem i_CutLease_ok [MaxL GG] (w : GWorld) (id : Int) (hf : fitW w) :
  Valid PP GG 18 [.agg w.c, .d (.int .i64 id)] (.tup [.agg (cutW w id).o, .d (.bool (cutB w id))]) [none, none] := by
 refine cv Tryz.func18 [.agg (cutW w id).o, .d (.bool (cutB w id))] ?_
 have cw := isWorld_ok (GG := GG) w hf
 have ccp := cloneWorld_ok (GG := GG) w hf
 have cix := leaseIndex_ok (GG := GG) w.fBook id hf.2.1.1
 have hW : cutW w id = if cutB w id then letGo { w with fBook := dropL w.fBook id } [cutL w id] else w := rfl
 have hB : cutB w id = (worldB w && hasLease w.fBook id) := rfl
 have hi1 := ind_rToken w.fForest.fTokens
 have hi2 := ind_rLease w.fBook.fLeases
 have hi3 := ind_rUser w.fFar.fUsers
 have hi4 := ind_rJob w.fQueue.fJobs
 have hi5 := ind_rOwned w.fOwned
 have hno := idxF_none (fun t : GLease => decide (t.fId = id)) w.fBook.fLeases
 cases hWB : worldB w with
 | false =>
  rw [hWB, Bool.false_and] at hB
  rw [hB] at hW ⊢
  simp only [Bool.false_eq_true, if_false] at hW
  rw [hW]
  rw [hWB] at cw
  clear hW hB hno
  exact u_31 (Z3 cix cw ccp)
 | true =>
  obtain ⟨hL, hI, hbb⟩ := letOk_of hf hWB (dropL w.fBook id)
  rw [hWB, Bool.true_and] at hB
  rw [hWB] at cw
  cases hH : hasLease w.fBook id with
  | false =>
   rw [hH] at hB
   rw [hB] at hW ⊢
   simp only [Bool.false_eq_true, if_false] at hW
   rw [hW]
   have hH2 : w.fBook.fLeases.any (fun t => decide (t.fId = id)) = false := hH
   rw [hH2] at hno
   have hix := of_decide_eq_true hno
   clear hW hB hL hI hno
   generalize idxF (fun t : GLease => decide (t.fId = id)) w.fBook.fLeases = k at *
   exact u_29 hix (Z3 cix cw ccp)
  | true =>
   rw [hH] at hB
   rw [hB] at hW ⊢
   simp only [if_true] at hW
   have hH2 : w.fBook.fLeases.any (fun t => decide (t.fId = id)) = true := hH
   obtain ⟨x, hx, hxi⟩ := List.any_eq_true.1 hH2
   obtain ⟨j, hj, rfl⟩ := List.mem_iff_getElem.1 hx
   have hxi2 := of_decide_eq_true hxi
   have hgj := List.getElem?_eq_getElem hj
   generalize w.fBook.fLeases[j] = x at *
   have hlt := inc_split (key := GLease.fId) (book_inc hbb) hgj
   have hpre : ∀ y, y ∈ w.fBook.fLeases.take j → decide (y.fId = id) = false := fun y hy => by have := hlt.1 y hy; exact decide_eq_false (by omega)
   rw [idxF_hit hgj hpre hxi] at cix
   have hF : cutL w id = x := by unfold cutL; rw [(find_hit hgj hpre hxi).1]; rfl
   have hDL : dropL w.fBook id = ⟨w.fBook.fLeases.take j ++ w.fBook.fLeases.drop (j + 1)⟩ := by unfold dropL; rw [filter_cut (book_inc hbb) hgj hxi2]
   rw [hF, hDL] at hW
   rw [hDL] at hL hI
   have cre := release_ok (GG := GG) { w with fBook := ⟨w.fBook.fLeases.take j ++ w.fBook.fLeases.drop (j + 1)⟩ } [x] hL hI (by simp)
   rw [← hW, show rLease [x] = [x.row] from rfl] at cre
   have hbl := hf.2.1.1
   have cdl := DeleteLease_ok (GG := GG) (rLease w.fBook.fLeases) j (j + 1) (by omega) (by rw [rLease_len]; omega)
   rw [rLease_del] at cdl
   have hw : IntKind.i64.wrap ((j : Int) + 1) = (j : Int) + 1 := wrap_id (by omega) (by omega)
   rw [show ((j + 1 : Nat) : Int) = (j : Int) + 1 by omega] at cdl
   clear hW hB hF hL hI hlt hDL hpre hno hx
   generalize letRun (letAll { w with fBook := ⟨w.fBook.fLeases.take j ++ w.fBook.fLeases.drop (j + 1)⟩ } [x]) = R at *
   generalize cutW w id = Z at *
   generalize w.fBook.fLeases.take j ++ w.fBook.fLeases.drop (j + 1) = dl at *
   obtain ⟨f1, f2, f3, f4, f5, f6⟩ := x
   obtain ⟨Zn, Zx, Zl, ⟨Zf⟩, ⟨Zb⟩, ⟨Zu, Zfl, Zfm⟩, ⟨Zq⟩, Zo⟩ := Z
   have hi6 := ind_rLease dl
   have hj1 := ind_rToken Zf
   have hj2 := ind_rLease Zb
   have hj3 := ind_rUser Zu
   have hj4 := ind_rJob Zq
   have hj5 := ind_rOwned Zo
   have hj6 := ind_strs R.done
   have hj7 := ind_strs R.failed
   repeat' (first | refine W_seq ?_ | refine W_skip ?_ | refine W_block ?_ | refine W_exit ?_ | refine pick_pos rfl ?_ | refine pick_neg rfl ?_ | ((first | refine W_regP fun K hK => ?_ | refine W_regPD fun K hK => ?_ | refine W_ret ?_ | with_reducible refine callQ (cix) ?_ | with_reducible refine callQ (cw) ?_ | with_reducible refine callQ (ccp) ?_ | with_reducible refine callQ (cdl) ?_ | with_reducible refine callQ (cre) ?_); simp [Fin, litA, hgj, hw]) | (with_reducible refine hK _ ?_; clear hK K) | (with_reducible refine goL_split (fun h => ?_) (fun h => ?_) <;> first | (exfalso; simp at h; first | done | omega | contradiction) | ((try simp at h); simp [litA, hgj, hw])) | with_reducible refine And.intro ?_ ?_ | with_reducible exact okay_rfl rfl | with_reducible assumption | (refine W_cond rfl (fun h => ?_) (fun h => ?_) <;> first | (exfalso; simp at h; first | done | omega | contradiction) | (exfalso; simp_all; done) | (try simp at h)) | omega)
def lessF (f : GForest) (g : List Int) : GForest := ⟨f.fTokens.filter fun t => !g.contains t.fId⟩
theorem s_l08Less_ok (a : List GToken) (g : List Int) (hf : fitF ⟨a⟩) (hg : g.length ≤ 1048576) :
  Valid PP GG 188 [.agg (GForest.mk a).c, .d (.slc 1 (intsD g))] (.agg (lessF ⟨a⟩ g).o) [none, none] := by
 refine cv Tryz.func188 [.agg (lessF ⟨a⟩ g).o] ?_
 have hL : lessF ⟨a⟩ g = ⟨a.filter fun t => !g.contains t.fId⟩ := rfl
 rw [hL]
 clear hL
 have chas := fun x => l01Has_ok (GG := GG) g x (by omega)
 refine u_28 ?_
 refine W_nilP 5 0 rfl rfl rfl ?_
 refine u_28 ?_
 refine W_loop (fun n st => ∃ i : Nat, n = a.length - i ∧ i ≤ a.length ∧
  st = ⟨[], [(1, .d (.slc 1 (intsD g))), (2, .ptr 0 0), (4, .ptr 1 0), (5, .ptr 2 0), (6, .d (.int .i64 i))], [(0, .box [.d (.slc 7 (rToken a))]), (1, .box [.nil 1 7]), (2, .box [.sl 3]), (3, .arr 0 1 7 (rToken ((a.take i).filter fun t => !g.contains t.fId)))], 4⟩) _ ⟨0, rfl, by omega, ?_⟩ ?_
 ·exact u_53
 rintro n st ⟨i, rfl, hi, rfl⟩
 by_cases hlt : i < a.length
 rotate_left
 ·have hie : i = a.length := by omega
  subst hie
  rw [List.take_length]
  have hi4 := ind_rToken (a.filter fun t => !g.contains t.fId)
  generalize (a.filter fun t => !g.contains t.fId) = b at *
  exact u_27
 have ha := List.getElem?_eq_getElem hlt
 have hm := List.getElem_mem hlt
 generalize a[i] = x at ha hm
 have hsc := filter_succ (p := fun t : GToken => !g.contains t.fId) (f := GToken.row) ha
 have hlen := filter_take_len (fun t : GToken => !g.contains t.fId) GToken.row a i
 rw [show ∀ l : List GToken, (l.filter fun t => !g.contains t.fId).map GToken.row = rToken (l.filter fun t => !g.contains t.fId) from fun l => rfl] at hsc hlen
 rw [show ∀ l : List GToken, (l.filter fun t => !g.contains t.fId).map GToken.row = rToken (l.filter fun t => !g.contains t.fId) from fun l => rfl] at hsc
 have hir := ind_rToken ((a.take i).filter fun t => !g.contains t.fId)
 have ct := s_l08CopyToken_ok (GG := GG) x (hf.2 x hm)
 have hla : a.length ≤ 1048576 := hf.1
 generalize rToken ((a.take i).filter fun t => !g.contains t.fId) = L at *
 have ch := chas x.fId
 obtain ⟨xi, xp, xn, xm, xe, xl, xu⟩ := x
 dsimp only at hsc ch
 cases hc : g.contains xi with
 | true =>
  rw [hc] at hsc ch
  simp only [Bool.not_true, Bool.false_eq_true, if_false, List.append_nil] at hsc
  refine u_30 ha (Z1 ch) ?_
  refine ⟨a.length - (i + 1), by omega, i + 1, rfl, hlt, ?_⟩
  rw [hsc]
  refine u_25 ?_
  exact wrap_id (by omega) (by omega)
 | false =>
  rw [hc] at hsc ch
  simp only [Bool.not_false, if_true] at hsc
  refine u_55 ha (Z2 ch ct) ?_
  refine ⟨a.length - (i + 1), by omega, i + 1, rfl, hlt, ?_⟩
  rw [hsc]
  refine u_25 ?_
  exact wrap_id (by omega) (by omega)
theorem lessF_nil (f : GForest) : lessF f [] = f := by
 obtain ⟨a⟩ := f
 unfold lessF
 congr 1
 rw [List.filter_eq_self]
 intro t _
 rfl
theorem s_RevokeToken_ok [MaxL GG] (f : GForest) (id : Int) (hf : fitF f) :
  Valid PP GG 165 [.agg f.c, .d (.int .i64 id)] (.tup [.agg (lessF f (goneT f id)).o, .own 0 1 (intsD (goneT f id))]) [none, none] := by
 refine cv Tryz.func165 [.agg (lessF f (goneT f id)).o, .own 0 1 (intsD (goneT f id))] ?_
 have cb := s_Below_ok (GG := GG) f id hf
 have hgl := goneT_len f id
 have hl := hf.1
 have ccp := s_l08Copy_ok (GG := GG) f.fTokens hf
 have cle := s_l08Less_ok (GG := GG) f.fTokens (goneT f id) hf (by omega)
 have hnil := lessF_nil f
 obtain ⟨a⟩ := f
 dsimp only at hgl hl ccp cle
 generalize goneT ⟨a⟩ id = G at *
 have hi1 := ind_rToken a
 have hig := ind_ints G
 cases G with
 | nil =>
  rw [hnil]
  clear hnil cle
  exact u_47 (Z2 cb ccp)
 | cons x t =>
  have hne : (((x :: t).length : Int) == 0) = false := by simp; omega
  have hle := ints_len (x :: t)
  generalize (x :: t) = G at *
  generalize lessF ⟨a⟩ G = R at *
  obtain ⟨r⟩ := R
  have hi2 := ind_rToken r
  clear hnil
  exact u_29 (Y2 hne hle) (Z2 cb cle)
def keepL (b : GBook) (g : List Int) : GBook := ⟨b.fLeases.filter fun l => !g.contains l.fToken⟩
def goneL (b : GBook) (g : List Int) : List GLease := b.fLeases.filter fun l => g.contains l.fToken
theorem s_DropOf_ok [MaxL GG] (b : GBook) (g : List Int) (hf : fitB b) (hb : bookB b = true) (hg : g.length ≤ 200) :
  Valid PP GG 163 [.agg b.c, .d (.slc 1 (intsD g))] (.tup [.agg (keepL b g).o, .own 0 6 (rLease (goneL b g))]) [none, none] := by
 refine cv Tryz.func163 [.agg (keepL b g).o, .own 0 6 (rLease (goneL b g))] ?_
 have hK : keepL b g = ⟨b.fLeases.filter fun l => !g.contains l.fToken⟩ := rfl
 have hG : goneL b g = b.fLeases.filter fun l => g.contains l.fToken := rfl
 have cbo := s_BookOk_ok (GG := GG) b hf
 rw [hb] at cbo
 rw [hK, hG]
 clear hK hG
 have chas := fun x => l01Has_ok (GG := GG) g x (by omega)
 have hl := hf.1
 obtain ⟨a⟩ := b
 dsimp only at hl
 have hgl := ints_len g
 have hng : ((200 : Int) < (g.length : Int)) = False := by simp; omega
 refine u_30 (Y2 hgl hng) (Z1 cbo) ?_
 refine W_nilP 6 0 rfl rfl rfl ?_
 refine u_28 ?_
 refine W_loop (fun n st => ∃ i : Nat, n = a.length - i ∧ i ≤ a.length ∧
  st = ⟨[], [(1, .d (.slc 1 (intsD g))), (2, .ptr 0 0), (4, .ptr 1 0), (6, .ptr 2 0), (7, .sl 3), (8, .d (.int .i64 i))], [(0, .box [.d (.slc 6 (rLease a))]), (1, .box [.nil 0 6]), (2, .box [.sl 4]), (3, .arr 0 0 6 (rLease ((a.take i).filter fun l => g.contains l.fToken))), (4, .arr 0 0 6 (rLease ((a.take i).filter fun l => !g.contains l.fToken)))], 5⟩) _ ⟨0, rfl, by omega, ?_⟩ ?_
 ·exact u_56
 rintro n st ⟨i, rfl, hi, rfl⟩
 by_cases hlt : i < a.length
 rotate_left
 ·have hie : i = a.length := by omega
  subst hie
  rw [List.take_length]
  have hi4 := ind_rLease (a.filter fun l => g.contains l.fToken)
  have hi5 := ind_rLease (a.filter fun l => !g.contains l.fToken)
  generalize (a.filter fun l => g.contains l.fToken) = b1 at *
  generalize (a.filter fun l => !g.contains l.fToken) = b2 at *
  exact u_27
 have ha := List.getElem?_eq_getElem hlt
 generalize a[i] = x at ha
 have hsc := filter_succ (p := fun l : GLease => g.contains l.fToken) (f := GLease.row) ha
 have hlen := filter_take_len (fun l : GLease => g.contains l.fToken) GLease.row a i
 rw [show ∀ l : List GLease, (l.filter fun l => g.contains l.fToken).map GLease.row = rLease (l.filter fun l => g.contains l.fToken) from fun l => rfl] at hsc hlen
 rw [show ∀ l : List GLease, (l.filter fun l => g.contains l.fToken).map GLease.row = rLease (l.filter fun l => g.contains l.fToken) from fun l => rfl] at hsc
 have hsc2 := filter_succ (p := fun l : GLease => !g.contains l.fToken) (f := GLease.row) ha
 have hlen2 := filter_take_len (fun l : GLease => !g.contains l.fToken) GLease.row a i
 rw [show ∀ l : List GLease, (l.filter fun l => !g.contains l.fToken).map GLease.row = rLease (l.filter fun l => !g.contains l.fToken) from fun l => rfl] at hsc2 hlen2
 rw [show ∀ l : List GLease, (l.filter fun l => !g.contains l.fToken).map GLease.row = rLease (l.filter fun l => !g.contains l.fToken) from fun l => rfl] at hsc2
 generalize rLease ((a.take i).filter fun l => g.contains l.fToken) = L at *
 generalize rLease ((a.take i).filter fun l => !g.contains l.fToken) = L2 at *
 have ch := chas x.fToken
 obtain ⟨x1, x2, x3, x4, x5, x6⟩ := x
 dsimp only at hsc hsc2 ch
 cases hc : g.contains x2 with
 | true =>
  rw [hc] at hsc hsc2 ch
  simp only [if_true] at hsc
  simp only [Bool.not_true, Bool.false_eq_true, if_false, List.append_nil] at hsc2
  refine u_55 ha (Z1 ch) ?_
  refine ⟨a.length - (i + 1), by omega, i + 1, rfl, hlt, ?_⟩
  rw [hsc, hsc2]
  refine u_25 ?_
  exact wrap_id (by omega) (by omega)
 | false =>
  rw [hc] at hsc hsc2 ch
  simp only [Bool.not_false, if_true] at hsc2
  simp only [Bool.false_eq_true, if_false, List.append_nil] at hsc
  refine u_55 ha (Z1 ch) ?_
  refine ⟨a.length - (i + 1), by omega, i + 1, rfl, hlt, ?_⟩
  rw [hsc, hsc2]
  refine u_25 ?_
  exact wrap_id (by omega) (by omega)
theorem dropLeases_ok (a : List GLease) (g : FuncId) (caps : List (List D)) (p : GLease → Bool) (hl : a.length ≤ 1048576) (hp : ∀ x, x ∈ a → Valid PP GG g (.agg x.c :: caps.map .rp) (.d (.bool (p x))) [none]) :
  Valid PP GG 127 [.agg [.d (.slc 6 (rLease a))], .d (.fn g caps)] (.tup [.agg [.own 0 6 (rLease (a.filter fun l => !p l))], .own 0 6 (rLease (a.filter p))]) [none, none] := by
 refine cv Tryz.func127 [.agg [.own 0 6 (rLease (a.filter fun l => !p l))], .own 0 6 (rLease (a.filter p))] ?_
 refine u_1 ?_
 refine u_1 ?_
 refine W_nilP 6 0 rfl rfl rfl ?_
 refine u_1 ?_
 refine W_nilV 7 rfl ?_
 refine u_28 ?_
 refine W_loop (fun n st => ∃ i : Nat, n = a.length - i ∧ i ≤ a.length ∧
  st = ⟨[], [(1, .d (.fn g caps)), (4, .ptr 0 0), (6, .ptr 1 0), (7, .sl 2), (11, .d (.slc 6 (rLease a))), (12, .d (.int .i64 a.length)), (13, .d (.int .i64 i))],
   [(0, .box [.nil 0 6]), (1, .box [.sl 3]), (2, .arr 0 0 6 (rLease ((a.take i).filter p))), (3, .arr 0 0 6 (rLease ((a.take i).filter fun l => !p l)))], 4⟩) _ ⟨0, rfl, by omega, ?_⟩ ?_
 ·exact u_56
 rintro n st ⟨i, rfl, hi, rfl⟩
 by_cases hlt : i < a.length
 rotate_left
 ·have hie : i = a.length := by omega
  subst hie
  rw [List.take_length]
  have hi4 := ind_rLease (a.filter p)
  have hi5 := ind_rLease (a.filter fun l => !p l)
  generalize (a.filter p) = b1 at *
  generalize (a.filter fun l => !p l) = b2 at *
  exact u_27
 have ha := List.getElem?_eq_getElem hlt
 have hm := List.getElem_mem hlt
 generalize a[i] = x at ha hm
 have cp := hp x hm
 have hsc := filter_succ (p := p) (f := GLease.row) ha
 have hlen := filter_take_len p GLease.row a i
 rw [show ∀ l : List GLease, (l.filter p).map GLease.row = rLease (l.filter p) from fun l => rfl] at hsc hlen
 rw [show ∀ l : List GLease, (l.filter p).map GLease.row = rLease (l.filter p) from fun l => rfl] at hsc
 have hsc2 := filter_succ (p := fun l : GLease => !p l) (f := GLease.row) ha
 have hlen2 := filter_take_len (fun l : GLease => !p l) GLease.row a i
 rw [show ∀ l : List GLease, (l.filter fun l => !p l).map GLease.row = rLease (l.filter fun l => !p l) from fun l => rfl] at hsc2 hlen2
 rw [show ∀ l : List GLease, (l.filter fun l => !p l).map GLease.row = rLease (l.filter fun l => !p l) from fun l => rfl] at hsc2
 generalize rLease ((a.take i).filter p) = L at *
 generalize rLease ((a.take i).filter fun l => !p l) = L2 at *
 generalize hcp : p x = c at *
 obtain ⟨x1, x2, x3, x4, x5, x6⟩ := x
 cases c with
 | true =>
  simp only [hcp, if_true] at hsc
  simp only [hcp, Bool.not_true, Bool.false_eq_true, if_false, List.append_nil] at hsc2
  refine u_55 ha (Z1 cp) ?_
  refine ⟨a.length - (i + 1), by omega, i + 1, rfl, hlt, ?_⟩
  rw [hsc, hsc2]
  refine u_25 ?_
  exact wrap_id (by omega) (by omega)
 | false =>
  simp only [hcp, Bool.not_false, if_true] at hsc2
  simp only [hcp, Bool.false_eq_true, if_false, List.append_nil] at hsc
  refine u_55 ha (Z1 cp) ?_
  refine ⟨a.length - (i + 1), by omega, i + 1, rfl, hlt, ?_⟩
  rw [hsc, hsc2]
  refine u_25 ?_
  exact wrap_id (by omega) (by omega)
theorem dropOfTokens_c1_ok (l : GLease) (g : List Int) (hg : g.length ≤ 1048576) : Valid PP GG 128 [.agg l.c, .rp [.slc 1 (intsD g)]] (.d (.bool (g.contains l.fToken))) [none] := by
 refine cv Tryz.func128 [.d (.bool (g.contains l.fToken))] ?_
 have cc := ContainsInt_ok (GG := GG) g l.fToken (by omega)
 exact u_31 (Z1 cc)
theorem dropOfTokens_ok (w : GWorld) (g : List Int) (hl : w.fBook.fLeases.length ≤ 1048576) (hg : g.length ≤ 1048576) :
  Valid PP GG 79 [.box w.o, .d (.slc 1 (intsD g))] (.own 0 6 (rLease (goneL w.fBook g))) [some (.box { w with fBook := keepL w.fBook g }.o), none] := by
 refine cv Tryz.func79 [.own 0 6 (rLease (goneL w.fBook g))] ?_
 have cd := dropLeases_ok (GG := GG) w.fBook.fLeases 128 [[.slc 1 (intsD g)]] (fun l => g.contains l.fToken) hl fun x _ => dropOfTokens_c1_ok x g hg
 rw [show (w.fBook.fLeases.filter fun l => g.contains l.fToken) = goneL w.fBook g from rfl] at cd
 have hK : keepL w.fBook g = ⟨w.fBook.fLeases.filter fun l => !g.contains l.fToken⟩ := rfl
 rw [hK]
 clear hK
 have hi1 := ind_rToken w.fForest.fTokens
 have hi2 := ind_rLease w.fBook.fLeases
 have hi3 := ind_rUser w.fFar.fUsers
 have hi4 := ind_rJob w.fQueue.fJobs
 have hi5 := ind_rOwned w.fOwned
 have hi6 := ind_rLease (goneL w.fBook g)
 have hi7 := ind_rLease (w.fBook.fLeases.filter fun l => !g.contains l.fToken)
 generalize goneL w.fBook g = GL at *
 generalize (w.fBook.fLeases.filter fun l => !g.contains l.fToken) = KL at *
 exact u_31 (Z1 cd)
def ctB (w : GWorld) (id : Int) : Bool := worldB w && hasTok w.fForest id
def ctG (w : GWorld) (id : Int) : List Int := if worldB w then goneT w.fForest id else []
def ctX (w : GWorld) (g : List Int) : GWorld := { w with fForest := lessF w.fForest g, fBook := keepL w.fBook g }
def ctW (w : GWorld) (id : Int) : GWorld := if ctB w id then letGo (ctX w (goneT w.fForest id)) (goneL w.fBook (goneT w.fForest id)) else w
theorem letOk_of2 {w : GWorld} (hf : fitW w) (hb : worldB w = true) (f : GForest) (b : GBook) : LetOk { w with fForest := f, fBook := b } ∧ ownInc { w with fForest := f, fBook := b } ∧ bookB w.fBook = true := by
 obtain ⟨hL, hI, hbb⟩ := letOk_of hf hb b
 obtain ⟨a1, a2, a3, a4, a5, a6, a7, a8⟩ := hL
 exact ⟨⟨a1, a2, a3, a4, a5, a6, a7, a8⟩, hI, hbb⟩
theorem goneT_none {f : GForest} {id : Int} (h : hasTok f id = false) : goneT f id = [] := by
 unfold goneT
 split
 ·rw [wo_none]
  intro t ht
  unfold hasTok at h
  rw [List.any_eq_false] at h
  simpa using h t ht
 ·rfl
theorem goneT_some {f : GForest} {id : Int} (hb : forestB f = true) (h : hasTok f id = true) : goneT f id ≠ [] := by
 obtain ⟨t, ht, hti⟩ := List.any_eq_true.1 h
 have hti := of_decide_eq_true hti
 have hr := (forest_wo hb (fun t => decide (t.fId = id))).rec_ t ht
 rw [decide_eq_true hti, Bool.true_or] at hr
 have e : goneT f id = (wo (fun t => decide (t.fId = id)) f.fTokens).2 := by unfold goneT; rw [if_pos hb]
 rw [e]
 intro e2
 rw [e2] at hr
 simp at hr
theorem goneT_len2 {f : GForest} (id : Int) (hb : forestB f = true) : (goneT f id).length ≤ 120 := by
 have h1 := goneT_len f id
 unfold forestB at hb
 simp only [Bool.and_eq_true, decide_eq_true_eq] at hb
 omega
theorem goneL_len (b : GBook) (g : List Int) : (goneL b g).length ≤ b.fLeases.length := List.length_filter_le _ _
theorem s_CutToken_ok [MaxL GG] (w : GWorld) (id : Int) (hf : fitW w) :
  Valid PP GG 138 [.agg w.c, .d (.int .i64 id)] (.tup [.agg (ctW w id).o, .own 0 1 (intsD (ctG w id))]) [none, none] := by
 refine cv Tryz.func138 [.agg (ctW w id).o, .own 0 1 (intsD (ctG w id))] ?_
 have cw := s_WorldOk_ok (GG := GG) w hf
 have ccp := s_l16Copy_ok (GG := GG) w hf
 have crv := s_RevokeToken_ok (GG := GG) w.fForest id hf.1
 have hW : ctW w id = if ctB w id then letGo (ctX w (goneT w.fForest id)) (goneL w.fBook (goneT w.fForest id)) else w := rfl
 have hB : ctB w id = (worldB w && hasTok w.fForest id) := rfl
 have hG : ctG w id = if worldB w then goneT w.fForest id else [] := rfl
 have hi1 := ind_rToken w.fForest.fTokens
 have hi2 := ind_rLease w.fBook.fLeases
 have hi3 := ind_rUser w.fFar.fUsers
 have hi4 := ind_rJob w.fQueue.fJobs
 have hi5 := ind_rOwned w.fOwned
 cases hWB : worldB w with
 | false =>
  rw [hWB, Bool.false_and] at hB
  rw [hB] at hW
  rw [hWB] at hG
  simp only [Bool.false_eq_true, if_false] at hW hG
  rw [hW, hG]
  rw [hWB] at cw
  clear hW hB hG crv
  exact u_47 (Z2 ccp cw)
 | true =>
  rw [hWB, Bool.true_and] at hB
  rw [hWB] at cw
  rw [hWB, if_pos rfl] at hG
  have hfb := world_forest hWB
  have hg2 := goneT_len2 id hfb
  cases hH : hasTok w.fForest id with
  | false =>
   rw [hH] at hB
   rw [hB] at hW
   simp only [Bool.false_eq_true, if_false] at hW
   rw [goneT_none hH] at hG crv
   rw [lessF_nil] at crv
   rw [hW, hG]
   clear hW hB hG hg2
   exact u_47 (Z3 ccp cw crv)
  | true =>
   rw [hH] at hB
   rw [hB] at hW
   simp only [if_true] at hW
   have hne := goneT_some hfb hH
   rw [hG]
   clear hG hB
   generalize goneT w.fForest id = G at *
   have hne2 : ((G.length : Int) == 0) = false := by
    cases G with
    | nil => exact absurd rfl hne
    | cons x t => simp; omega
   have hgl := ints_len G
   have hig := ind_ints G
   obtain ⟨hL, hI, hbb⟩ := letOk_of2 hf hWB (lessF w.fForest G) (keepL w.fBook G)
   have cdo := s_DropOf_ok (GG := GG) w.fBook G hf.2.1 hbb (by omega)
   have hgll := goneL_len w.fBook G
   have hbl := hf.2.1.1
   have cgo := s_l16LetGo_ok (GG := GG) { w with fForest := lessF w.fForest G, fBook := keepL w.fBook G } (goneL w.fBook G) hL (by omega)
   rw [show letGo { w with fForest := lessF w.fForest G, fBook := keepL w.fBook G } (goneL w.fBook G) = ctW w id from hW.symm] at cgo
   clear hW hL hI hne
   generalize letRun (letAll { w with fForest := lessF w.fForest G, fBook := keepL w.fBook G } (goneL w.fBook G)) = R at *
   generalize ctW w id = Z at *
   generalize goneL w.fBook G = GL at *
   generalize keepL w.fBook G = KB at *
   generalize lessF w.fForest G = LF at *
   obtain ⟨lf⟩ := LF
   obtain ⟨kb⟩ := KB
   obtain ⟨Zn, Zx, Zl, ⟨Zf⟩, ⟨Zb⟩, ⟨Zu, Zfl, Zfm⟩, ⟨Zq⟩, Zo⟩ := Z
   have hi6 := ind_rLease kb
   have hi7 := ind_rToken lf
   have hi8 := ind_rLease GL
   have hj1 := ind_rToken Zf
   have hj2 := ind_rLease Zb
   have hj3 := ind_rUser Zu
   have hj4 := ind_rJob Zq
   have hj5 := ind_rOwned Zo
   have hj6 := ind_strs R.done
   have hj7 := ind_strs R.failed
   exact u_29 (Y2 hne2 hgl) (Z5 ccp cw crv cdo cgo)
theorem cutToken_c1_ok (t : GToken) (id : Int) : Valid PP GG 114 [.agg t.c, .rp [.int .i64 id]] (.d (.bool (decide (t.fId = id)))) [none] := by
 refine cv Tryz.func114 [.d (.bool (decide (t.fId = id)))] ?_
 have hind := ind_strs t.fNames
 have hq : (t.fId == id) = decide (t.fId = id) := rfl
 exact u_20 hq
theorem cutToken_ok [MaxL GG] (w : GWorld) (id : Int) (hf : fitW w) (hWB : worldB w = true) (hH : hasTok w.fForest id = true) :
  Valid PP GG 60 [.agg w.c, .d (.int .i64 id)] (.tup [.agg (ctW w id).o, .own 0 1 (intsD (ctG w id))]) [none, none] := by
 refine cv Tryz.func60 [.agg (ctW w id).o, .own 0 1 (intsD (ctG w id))] ?_
 have ccp := cloneWorld_ok (GG := GG) w hf
 have hW : ctW w id = if ctB w id then letGo (ctX w (goneT w.fForest id)) (goneL w.fBook (goneT w.fForest id)) else w := rfl
 have hB : ctB w id = (worldB w && hasTok w.fForest id) := rfl
 have hG : ctG w id = if worldB w then goneT w.fForest id else [] := rfl
 rw [hWB, Bool.true_and, hH] at hB
 rw [hB, if_pos rfl] at hW
 rw [hWB, if_pos rfl] at hG
 have hfb := world_forest hWB
 have hg2 := goneT_len2 id hfb
 have hT : goneT w.fForest id = (wo (fun t => decide (t.fId = id)) w.fForest.fTokens).2 := by unfold goneT; rw [if_pos hfb]
 have hR := (forest_wo hfb (fun t => decide (t.fId = id))).rest
 rw [← hT] at hR
 have cwo := without_ok (GG := GG) w.fForest.fTokens 114 [[.int .i64 id]] (fun t => decide (t.fId = id)) hf.1 fun t _ => cutToken_c1_ok t id
 rw [← hT, hR] at cwo
 rw [hG]
 clear hG hB hT hR
 generalize goneT w.fForest id = G at *
 have hig := ind_ints G
 obtain ⟨hL, hI, hbb⟩ := letOk_of2 hf hWB (lessF w.fForest G) (keepL w.fBook G)
 have cdr := dropOfTokens_ok (GG := GG) { w with fForest := lessF w.fForest G } G hf.2.1.1 (by omega)
 dsimp only at cdr
 have hgll := goneL_len w.fBook G
 have hbl := hf.2.1.1
 have cre := release_ok (GG := GG) { w with fForest := lessF w.fForest G, fBook := keepL w.fBook G } (goneL w.fBook G) hL hI (by omega)
 rw [show letGo { w with fForest := lessF w.fForest G, fBook := keepL w.fBook G } (goneL w.fBook G) = ctW w id from hW.symm] at cre
 rw [show (w.fForest.fTokens.filter fun t => !G.contains t.fId) = (lessF w.fForest G).fTokens from rfl] at cwo
 clear hW hL hI
 generalize letRun (letAll { w with fForest := lessF w.fForest G, fBook := keepL w.fBook G } (goneL w.fBook G)) = R at *
 generalize ctW w id = Z at *
 generalize goneL w.fBook G = GL at *
 generalize keepL w.fBook G = KB at *
 generalize lessF w.fForest G = LF at *
 obtain ⟨lf⟩ := LF
 obtain ⟨kb⟩ := KB
 obtain ⟨Zn, Zx, Zl, ⟨Zf⟩, ⟨Zb⟩, ⟨Zu, Zfl, Zfm⟩, ⟨Zq⟩, Zo⟩ := Z
 have hi1 := ind_rToken w.fForest.fTokens
 have hi2 := ind_rLease w.fBook.fLeases
 have hi3 := ind_rUser w.fFar.fUsers
 have hi4 := ind_rJob w.fQueue.fJobs
 have hi5 := ind_rOwned w.fOwned
 have hi6 := ind_rLease kb
 have hi7 := ind_rToken lf
 have hi8 := ind_rLease GL
 have hj1 := ind_rToken Zf
 have hj2 := ind_rLease Zb
 have hj3 := ind_rUser Zu
 have hj4 := ind_rJob Zq
 have hj5 := ind_rOwned Zo
 have hj6 := ind_strs R.done
 have hj7 := ind_strs R.failed
 exact u_31 (Z4 ccp cwo cdr cre)
theorem i_CutToken_ok [MaxL GG] (w : GWorld) (id : Int) (hf : fitW w) :
  Valid PP GG 19 [.agg w.c, .d (.int .i64 id)] (.tup [.agg (ctW w id).o, .own 0 1 (intsD (ctG w id))]) [none, none] := by
 refine cv Tryz.func19 [.agg (ctW w id).o, .own 0 1 (intsD (ctG w id))] ?_
 have cw := isWorld_ok (GG := GG) w hf
 have ccp := cloneWorld_ok (GG := GG) w hf
 have cix := tokenIndex_ok (GG := GG) w.fForest id hf.1.1
 have cct := cutToken_ok (GG := GG) w id hf
 have hno := idxF_none (fun t : GToken => decide (t.fId = id)) w.fForest.fTokens
 rw [show w.fForest.fTokens.any (fun t => decide (t.fId = id)) = hasTok w.fForest id from rfl] at hno
 have hW : ctW w id = if ctB w id then letGo (ctX w (goneT w.fForest id)) (goneL w.fBook (goneT w.fForest id)) else w := rfl
 have hB : ctB w id = (worldB w && hasTok w.fForest id) := rfl
 have hG : ctG w id = if worldB w then goneT w.fForest id else [] := rfl
 have hi1 := ind_rToken w.fForest.fTokens
 have hi2 := ind_rLease w.fBook.fLeases
 have hi3 := ind_rUser w.fFar.fUsers
 have hi4 := ind_rJob w.fQueue.fJobs
 have hi5 := ind_rOwned w.fOwned
 cases hWB : worldB w with
 | false =>
  rw [hWB, Bool.false_and] at hB
  rw [hB] at hW
  rw [hWB] at hG
  simp only [Bool.false_eq_true, if_false] at hW hG
  rw [hW, hG]
  rw [hWB] at cw
  clear hW hB hG hno cct
  exact u_47 (Z3 cix cw ccp)
 | true =>
  rw [hWB] at cw
  cases hH : hasTok w.fForest id with
  | false =>
   rw [hWB, hH] at hB
   rw [hWB, if_pos rfl, goneT_none hH] at hG
   rw [hB] at hW
   simp only [Bool.and_false, Bool.false_eq_true, if_false] at hW
   rw [hW, hG]
   rw [hH] at hno
   have hix := of_decide_eq_true hno
   clear hW hB hG hno cct
   generalize idxF (fun t : GToken => decide (t.fId = id)) w.fForest.fTokens = k at *
   exact u_48 hix (Z3 cix cw ccp)
  | true =>
   have cct := cct hWB hH
   rw [hH] at hno
   have hix := of_decide_eq_false hno
   clear hW hB hG hno
   generalize idxF (fun t : GToken => decide (t.fId = id)) w.fForest.fTokens = k at *
   generalize ctW w id = Z at *
   generalize ctG w id = G at *
   obtain ⟨Zn, Zx, Zl, ⟨Zf⟩, ⟨Zb⟩, ⟨Zu, Zfl, Zfm⟩, ⟨Zq⟩, Zo⟩ := Z
   have hig := ind_ints G
   have hj1 := ind_rToken Zf
   have hj2 := ind_rLease Zb
   have hj3 := ind_rUser Zu
   have hj4 := ind_rJob Zq
   have hj5 := ind_rOwned Zo
   exact u_29 hix (Z4 cix cw ccp cct)
theorem ctG_len (w : GWorld) (id : Int) (hf : fitW w) : (ctG w id).length ≤ 1048576 := by
 have h1 := goneT_len w.fForest id
 have h2 := hf.1.1
 unfold ctG
 split
 ·omega
 ·simp
structure Cur where
 b : List UInt8
 i : Int
 h : Int
@[simp] abbrev Cur.o (c : Cur) : List C := [.d (.slc 1 (bytesD c.b)), .d (.int .i64 c.i), .d (.int .i64 c.h)]
def Cur.good (c : Cur) : Prop := 0 ≤ c.i ∧ c.i ≤ c.b.length ∧ c.b.length ≤ 1048577
def and64 (a b : Int) : Int := IntKind.i64.wrap ((BitVec.ofInt 64 a &&& BitVec.ofInt 64 b).toNat)
def xor64 (a b : Int) : Int := IntKind.i64.wrap ((BitVec.ofInt 64 a ^^^ BitVec.ofInt 64 b).toNat)
theorem and64_ev (a b : Int) : intBin .and .i64 a b = some (.int .i64 (and64 a b)) := rfl
theorem xor64_ev (a b : Int) : intBin .xor .i64 a b = some (.int .i64 (xor64 a b)) := rfl
theorem and64_255 (a : Int) : 0 ≤ and64 a 255 ∧ and64 a 255 ≤ 255 := by
 unfold and64
 have h : (BitVec.ofInt 64 a &&& BitVec.ofInt 64 255).toNat ≤ 255 := by
  rw [BitVec.toNat_and]
  exact Nat.and_le_right
 rw [show IntKind.i64.wrap ((BitVec.ofInt 64 a &&& BitVec.ofInt 64 255).toNat : Int) = ((BitVec.ofInt 64 a &&& BitVec.ofInt 64 255).toNat : Int) from wrap_id (by omega) (by omega)]
 omega
def curH (h : Int) : Int := IntKind.i64.wrap (IntKind.i64.wrap (h * 6364136223846793005) + 1442695040888963407)
def byteX (h : Int) : Int := and64 (xor64 (h.fdiv 8589934592) (h.fdiv 35184372088832)) 255
def nthB (l : List UInt8) (i : Int) : Int := ((l.getD i.toNat 0).toNat : Nat)
def lByte (c : Cur) : Int × Cur :=
 if c.i < (c.b.length : Nat) then (and64 (byteX (curH c.h) + nthB c.b c.i) 255, ⟨c.b, c.i + 1, curH c.h⟩) else (byteX (curH c.h), ⟨c.b, c.i, curH c.h⟩)
theorem lByte_rng (c : Cur) : 0 ≤ (lByte c).1 ∧ (lByte c).1 ≤ 255 := by
 unfold lByte
 split
 ·exact and64_255 _
 ·exact and64_255 _
theorem lByte_good {c : Cur} (h : c.good) : (lByte c).2.good := by
 unfold lByte
 split <;> (unfold Cur.good at *; dsimp only at *; omega)
def lBelow (c : Cur) (n : Int) : Int × Cur :=
 if n ≤ 0 then (0, c) else if n ≤ 256 then ((lByte c).1.tmod n, (lByte c).2) else
  (((lByte c).1 * 65536 + (lByte (lByte c).2).1 * 256 + (lByte (lByte (lByte c).2).2).1).tmod n, (lByte (lByte (lByte c).2).2).2)
theorem lBelow_rng (c : Cur) {n : Int} (h : 0 < n) : 0 ≤ (lBelow c n).1 ∧ (lBelow c n).1 < n := by
 have h1 := lByte_rng c
 have h2 := lByte_rng (lByte c).2
 have h3 := lByte_rng (lByte (lByte c).2).2
 unfold lBelow
 rw [if_neg (by omega)]
 split
 ·exact ⟨Int.tmod_nonneg _ h1.1, Int.tmod_lt_of_pos _ h⟩
 ·exact ⟨Int.tmod_nonneg _ (by omega), Int.tmod_lt_of_pos _ h⟩
theorem lBelow_rng0 (c : Cur) (n : Int) : 0 ≤ (lBelow c n).1 ∧ (lBelow c n).1 ≤ (if n ≤ 0 then 0 else n - 1) := by
 by_cases h : n ≤ 0
 ·unfold lBelow; rw [if_pos h, if_pos h]; exact ⟨Int.le_refl _, Int.le_refl _⟩
 ·have := lBelow_rng c (n := n) (by omega); rw [if_neg h]; omega
theorem lBelow_good {c : Cur} (h : c.good) (n : Int) : (lBelow c n).2.good := by
 unfold lBelow
 split
 ·exact h
 ·split
  ·exact lByte_good h
  ·exact lByte_good (lByte_good (lByte_good h))
def lOnce (c : Cur) (n : Int) : Bool × Cur := (decide ((lBelow c n).1 = 0), (lBelow c n).2)
theorem lOnce_good {c : Cur} (h : c.good) (n : Int) : (lOnce c n).2.good := lBelow_good h n
def lPick {α : Type} (c : Cur) (z : α) (l : List α) : α × Cur := (l.getD (lBelow c l.length).1.toNat z, (lBelow c l.length).2)
theorem lPick_good {α : Type} {c : Cur} (h : c.good) (z : α) (l : List α) : (lPick c z l).2.good := lBelow_good h _
theorem lPick_get {α : Type} (c : Cur) (z : α) {l : List α} (h : l ≠ []) : ∃ k : Nat, (lBelow c l.length).1 = (k : Int) ∧ l[k]? = some (lPick c z l).1 := by
 have hl : 0 < l.length := List.length_pos_iff.2 h
 obtain ⟨h1, h2⟩ := lBelow_rng c (n := (l.length : Int)) (by omega)
 refine ⟨(lBelow c l.length).1.toNat, by omega, ?_⟩
 unfold lPick
 rw [List.getD_eq_getElem?_getD, List.getElem?_eq_getElem (by omega)]
 rfl
theorem lPick_mem {α : Type} (c : Cur) (z : α) {l : List α} (h : l ≠ []) : (lPick c z l).1 ∈ l := by
 obtain ⟨k, _, hk⟩ := lPick_get c z h
 exact List.mem_of_getElem? hk
def seg1 : List (List UInt8) := [[], [65], [97, 47, 98], [97, 98, 99, 100, 101, 102, 103, 104, 105, 106, 107, 108, 109, 110, 111, 112], [97, 98, 99, 100, 101, 102, 103, 104, 105, 106, 107, 108, 109, 110, 111, 112, 113], [45], [97, 32, 98], [43, 97], [42, 42]]
def seg2 : List (List UInt8) := [[97], [98], [99], [107, 118], [100, 98], [120, 45, 49], [57]]
def lSeg (c : Cur) : List UInt8 × Cur := if (lOnce c 25).1 = true then lPick (lOnce c 25).2 [] seg1 else lPick (lOnce c 25).2 [] seg2
theorem lSeg_good {c : Cur} (h : c.good) : (lSeg c).2.good := by
 unfold lSeg
 split
 ·exact lPick_good (lOnce_good h _) _ _
 ·exact lPick_good (lOnce_good h _) _ _
theorem lSeg_len (c : Cur) : (lSeg c).1.length ≤ 17 := by
 unfold lSeg
 have ha : ∀ x, x ∈ seg1 → x.length ≤ 17 := by decide
 have hb : ∀ x, x ∈ seg2 → x.length ≤ 17 := by decide
 split
 ·exact ha _ (lPick_mem _ _ (by decide))
 ·exact hb _ (lPick_mem _ _ (by decide))
def lPathL (s : List UInt8 × Cur) : Nat → List UInt8 × Cur
 | 0 => s
 | n + 1 => ((lPathL s n).1 ++ [47] ++ (lSeg (lPathL s n).2).1, (lSeg (lPathL s n).2).2)
theorem lPathL_good {s : List UInt8 × Cur} (h : s.2.good) (n : Nat) : (lPathL s n).2.good := by
 induction n with
 | zero => exact h
 | succ n ih => exact lSeg_good ih
theorem lPathL_len (s : List UInt8 × Cur) (n : Nat) : (lPathL s n).1.length ≤ s.1.length + 18 * n := by
 induction n with
 | zero => exact Nat.le_refl _
 | succ n ih =>
  have := lSeg_len (lPathL s n).2
  show ((lPathL s n).1 ++ [47] ++ (lSeg (lPathL s n).2).1).length ≤ _
  simp only [List.length_append, List.length_cons, List.length_nil]
  omega
def lPathN (c : Cur) : Int × Cur :=
 if (lOnce (lBelow c 4).2 20).1 = true then (7 + (lBelow (lOnce (lBelow c 4).2 20).2 2).1, (lBelow (lOnce (lBelow c 4).2 20).2 2).2) else ((lBelow c 4).1, (lOnce (lBelow c 4).2 20).2)
def lPath (c : Cur) : List UInt8 × Cur := lPathL ((lSeg c).1, (lPathN (lSeg c).2).2) (lPathN (lSeg c).2).1.toNat
theorem lPathN_rng (c : Cur) : 0 ≤ (lPathN c).1 ∧ (lPathN c).1 ≤ 8 := by
 have h1 := lBelow_rng c (n := 4) (by omega)
 have h2 := lBelow_rng (lOnce (lBelow c 4).2 20).2 (n := 2) (by omega)
 unfold lPathN
 split
 ·dsimp only; omega
 ·dsimp only; omega
theorem lPathN_good {c : Cur} (h : c.good) : (lPathN c).2.good := by
 unfold lPathN
 split
 ·exact lBelow_good (lOnce_good (lBelow_good h _) _) _
 ·exact lOnce_good (lBelow_good h _) _
theorem lPath_len (c : Cur) : (lPath c).1.length ≤ 200 := by
 have h1 := lSeg_len c
 have h2 := lPathN_rng (lSeg c).2
 have h3 := lPathL_len ((lSeg c).1, (lPathN (lSeg c).2).2) (lPathN (lSeg c).2).1.toNat
 unfold lPath
 dsimp only at h3
 omega
def lSize (n : Nat) (most : Int) : Int := if most < 2 + ((n / 16 : Nat) : Int) then most else 2 + ((n / 16 : Nat) : Int)
def hStep (h : Int) (b : UInt8) : Int := and64 (IntKind.i64.wrap (IntKind.i64.wrap (IntKind.i64.wrap (h * 149) + (b.toNat : Nat)) + 11)) 1073741823
def hRun (h : Int) (l : List UInt8) : Int := l.foldl hStep h
def lNew (code : List UInt8) : Cur := ⟨code, 0, hRun (705705 + (code.length : Nat)) (code.take 4000)⟩
theorem lNew_good {code : List UInt8} (h : code.length ≤ 1048577) : (lNew code).good := ⟨Int.le_refl _, by show (0 : Int) ≤ _; omega, h⟩
end Go.Proofs.YtoomonfpedjgoaaGreatDoor.Ab
