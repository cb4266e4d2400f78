/-
  No cell of these rows narrows 'for every input' (looked for: loops, veiled, ifaces, maps, wideKeys, modest, calm, conditions, laid).
  DERIVED. THE GIVEN ROWS OF THIS SEAT. 3 by the template 'for every input the law returns true; each argument reads behind the call as it read before'; 0 by the template 'total and deterministic' (their statements: YtjdepagpjkoglaaTotals.lean).
  GIVEN WITH THE SEED: the statements are not yours to turn. If you find one false, say at which input.
  Laid BY PROGRAM, IN A SANDBOX (cutbox-rows.mjs): the forced cells as the released guide's own fill.sh prints them over the translation 00bf83c1767c7d65… (all of the seat's roots in one cut). By AI agents, Wed Nov 11 2026. No macro, syntax, notation, axiom, sorry.
-/
import Derived.Test.YtjdepagpjkoglaaChecked
import GoSem.Claim
import GoSem.ClaimJoined
import GoSem.ClaimMapViews
import Derived.JoinedTies
import Derived.KernelRfl
namespace Go.Proofs.Ytjdepagpjkoglaa
/- THE CELL 'sum', in the pinned program and in every row, IS THE sha256 OF THE DUMP (.gsa) THAT YtjdepagpjkoglaaProg.lean LOADS. Nothing in Lean hashes anything: it is a label: what it is worth is what the hold of that sum in a sandbox is worth. -/
noncomputable def Try.pinned : Pinned := { name := "ytjdepagpjkoglaa", sum := "00bf83c1767c7d65bfd5c91a58b49acd396d2240e32eb6d629e1d9d9f29e5a2a", checked := Try.checked }
namespace Rows
def none {H : Type} : Left H := { results := [], args := [] }

/-- 'laws.FnExactHexText': WHATEVER THE INPUT: true; the input reads as it did. -/
def fnExactHexTextSpec : ChangeSpec := { name := "fnExactHexText", fn := fun _ => fun
  | [d] => { results := [.lit (.bool true)], args := [d] }
  | _ => none }
def fnExactHexTextRow : OpenClaim := { program := "ytjdepagpjkoglaa", sum := "00bf83c1767c7d65bfd5c91a58b49acd396d2240e32eb6d629e1d9d9f29e5a2a", func := "loop.example/g00705/laws.FnExactHexText", spec := "fnExactHexText", apart := false }
def FnExactHexTextSaid : Prop := fnExactHexTextRow.holds Try.pinned (OpenSpec.ofChange fnExactHexTextSpec)

/-- ITS FALSE NEIGHBOUR: 'it returns false'. Refute it at one input. -/
def fnExactHexTextWrong : ChangeSpec := { name := "fnExactHexText", fn := fun _ => fun
  | [d] => { results := [.lit (.bool false)], args := [d] }
  | _ => none }
def FnExactHexTextWrongFalsely : Prop := fnExactHexTextRow.holds Try.pinned (OpenSpec.ofChange fnExactHexTextWrong)

/-- 'laws.FnExactRecordReq': WHATEVER THE INPUT: true; the input reads as it did. -/
def fnExactRecordReqSpec : ChangeSpec := { name := "fnExactRecordReq", fn := fun _ => fun
  | [d] => { results := [.lit (.bool true)], args := [d] }
  | _ => none }
def fnExactRecordReqRow : OpenClaim := { program := "ytjdepagpjkoglaa", sum := "00bf83c1767c7d65bfd5c91a58b49acd396d2240e32eb6d629e1d9d9f29e5a2a", func := "loop.example/g00705/laws.FnExactRecordReq", spec := "fnExactRecordReq", unfollowed := true, recurses := true, apart := false }
def FnExactRecordReqSaid : Prop := fnExactRecordReqRow.holds Try.pinned (OpenSpec.ofChange fnExactRecordReqSpec)

/-- ITS FALSE NEIGHBOUR: 'it returns false'. Refute it at one input. -/
def fnExactRecordReqWrong : ChangeSpec := { name := "fnExactRecordReq", fn := fun _ => fun
  | [d] => { results := [.lit (.bool false)], args := [d] }
  | _ => none }
def FnExactRecordReqWrongFalsely : Prop := fnExactRecordReqRow.holds Try.pinned (OpenSpec.ofChange fnExactRecordReqWrong)

/-- 'laws.FnExactReqRecord': WHATEVER THE INPUT: true; the input reads as it did. -/
def fnExactReqRecordSpec : ChangeSpec := { name := "fnExactReqRecord", fn := fun _ => fun
  | [d] => { results := [.lit (.bool true)], args := [d] }
  | _ => none }
def fnExactReqRecordRow : OpenClaim := { program := "ytjdepagpjkoglaa", sum := "00bf83c1767c7d65bfd5c91a58b49acd396d2240e32eb6d629e1d9d9f29e5a2a", func := "loop.example/g00705/laws.FnExactReqRecord", spec := "fnExactReqRecord", unfollowed := true, recurses := true, apart := false }
def FnExactReqRecordSaid : Prop := fnExactReqRecordRow.holds Try.pinned (OpenSpec.ofChange fnExactReqRecordSpec)

/-- ITS FALSE NEIGHBOUR: 'it returns false'. Refute it at one input. -/
def fnExactReqRecordWrong : ChangeSpec := { name := "fnExactReqRecord", fn := fun _ => fun
  | [d] => { results := [.lit (.bool false)], args := [d] }
  | _ => none }
def FnExactReqRecordWrongFalsely : Prop := fnExactReqRecordRow.holds Try.pinned (OpenSpec.ofChange fnExactReqRecordWrong)

/- THE SECOND FORM. 'bulk': how many values and letters a reading holds, each counted each time it is reached (what is shared counts as often as it is met; a slice's spare places count too). A statement '..UptoSaid' is the law's where the arguments, and the package variables that the reading takes, are together of bulk at most 1048576: NARROWER than '..Said'. Prove '..Said' where nothing that the law and all that it calls make is longer than what came in: it says more and counts as full. Else prove '..UptoSaid'. A law counts once. -/
mutual
def uptoBulk {H : Type} : DataW H → Nat
  | .lit (.string bytes) => bytes.length + 1
  | .lit _ => 1
  | .nil => 1
  | .ptr d => uptoBulk d + 1
  | .slice elems spare => uptoBulkAll elems + uptoBulkAll spare + 1
  | .agg parts => uptoBulkAll parts + 1
  | .iface _ d => uptoBulk d + 1
  | .map entries => uptoBulkEntries entries + 1
  | .held _ => 1
def uptoBulkAll {H : Type} : List (DataW H) → Nat
  | [] => 0
  | d :: r => uptoBulk d + uptoBulkAll r
def uptoBulkEntries {H : Type} : List (Lit × DataW H) → Nat
  | [] => 0
  | x :: r => uptoBulkEntry x + uptoBulkEntries r
def uptoBulkEntry {H : Type} : Lit × DataW H → Nat
  | (.string bytes, d) => bytes.length + uptoBulk d + 1
  | (_, d) => uptoBulk d + 1
 end
def uptoSmall : (H : Type) → List (DataW H) → Bool := fun _ ds => decide (uptoBulkAll ds ≤ 1048576)
def OpenSpec.upto (s : _root_.Go.ChangeSpec) : _root_.Go.OpenSpec := { _root_.Go.OpenSpec.ofChange s with cond := some uptoSmall }

/-- 'laws.FnExactHexText', WHERE WHAT IT READS IS OF BULK AT MOST 1048576: true; the input reads as it did. -/
def fnExactHexTextUptoRow : OpenClaim := { program := "ytjdepagpjkoglaa", sum := "00bf83c1767c7d65bfd5c91a58b49acd396d2240e32eb6d629e1d9d9f29e5a2a", func := "loop.example/g00705/laws.FnExactHexText", spec := "fnExactHexText", apart := false, narrowed := true }
def FnExactHexTextUptoSaid : Prop := fnExactHexTextUptoRow.holds Try.pinned (OpenSpec.upto fnExactHexTextSpec)

/-- 'laws.FnExactRecordReq', WHERE WHAT IT READS IS OF BULK AT MOST 1048576: true; the input reads as it did. -/
def fnExactRecordReqUptoRow : OpenClaim := { program := "ytjdepagpjkoglaa", sum := "00bf83c1767c7d65bfd5c91a58b49acd396d2240e32eb6d629e1d9d9f29e5a2a", func := "loop.example/g00705/laws.FnExactRecordReq", spec := "fnExactRecordReq", unfollowed := true, recurses := true, apart := false, narrowed := true }
def FnExactRecordReqUptoSaid : Prop := fnExactRecordReqUptoRow.holds Try.pinned (OpenSpec.upto fnExactRecordReqSpec)

/-- 'laws.FnExactReqRecord', WHERE WHAT IT READS IS OF BULK AT MOST 1048576: true; the input reads as it did. -/
def fnExactReqRecordUptoRow : OpenClaim := { program := "ytjdepagpjkoglaa", sum := "00bf83c1767c7d65bfd5c91a58b49acd396d2240e32eb6d629e1d9d9f29e5a2a", func := "loop.example/g00705/laws.FnExactReqRecord", spec := "fnExactReqRecord", unfollowed := true, recurses := true, apart := false, narrowed := true }
def FnExactReqRecordUptoSaid : Prop := fnExactReqRecordUptoRow.holds Try.pinned (OpenSpec.upto fnExactReqRecordSpec)

end Rows
end Go.Proofs.Ytjdepagpjkoglaa
