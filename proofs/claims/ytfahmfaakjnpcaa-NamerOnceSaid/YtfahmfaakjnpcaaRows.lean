/-
  No cell of these rows narrows 'for every input' (looked for: loops, veiled, ifaces, maps, wideKeys, modest, calm, conditions, laid).
  DERIVED. THE GIVEN ROWS OF THIS SEAT. 4 by the template 'for every input the law returns true; each argument reads behind the call as it read before'; 0 by the template 'total and deterministic' (their statements: YtfahmfaakjnpcaaTotals.lean).
  GIVEN WITH THE SEED: the statements are not yours to turn. If you find one false, say at which input.
  Laid BY PROGRAM, IN A SANDBOX (cutbox-rows.mjs): the forced cells as the released guide's own fill.sh prints them over the translation e086a5401975d446… (all of the seat's roots in one cut). By AI agents, Wed Nov 11 2026. No macro, syntax, notation, axiom, sorry.
-/
import Derived.Test.YtfahmfaakjnpcaaChecked
import GoSem.Claim
import GoSem.ClaimJoined
import GoSem.ClaimMapViews
import Derived.JoinedTies
import Derived.KernelRfl
namespace Go.Proofs.Ytfahmfaakjnpcaa
/- THE CELL 'sum', in the pinned program and in every row, IS THE sha256 OF THE DUMP (.gsa) THAT YtfahmfaakjnpcaaProg.lean LOADS. Nothing in Lean hashes anything: it is a label: what it is worth is what the hold of that sum in a sandbox is worth. -/
noncomputable def Try.pinned : Pinned := { name := "ytfahmfaakjnpcaa", sum := "e086a5401975d446d629dd4299d808aeaba6527ee6faeaa07d42c648f9e50919", checked := Try.checked }
namespace Rows
def none {H : Type} : Left H := { results := [], args := [] }

/-- 'switchboardlaw18.NamerOnce': WHATEVER THE INPUT: true; the input reads as it did. -/
def namerOnceSpec : ChangeSpec := { name := "namerOnce", fn := fun _ => fun
  | [d1, d2, d3] => { results := [.lit (.bool true)], args := [d1, d2, d3] }
  | _ => none }
def namerOnceRow : OpenClaim := { program := "ytfahmfaakjnpcaa", sum := "e086a5401975d446d629dd4299d808aeaba6527ee6faeaa07d42c648f9e50919", func := "switchboard/switchboardlaw18.NamerOnce", spec := "namerOnce", inPlace := ["slices.overlaps[switchboard/api.Known]"], unfollowed := true, recurses := true, apart := false }
def NamerOnceSaid : Prop := namerOnceRow.holds Try.pinned (OpenSpec.ofChange namerOnceSpec)

/-- ITS FALSE NEIGHBOUR: 'it returns false'. Refute it at one input. -/
def namerOnceWrong : ChangeSpec := { name := "namerOnce", fn := fun _ => fun
  | [d1, d2, d3] => { results := [.lit (.bool false)], args := [d1, d2, d3] }
  | _ => none }
def NamerOnceWrongFalsely : Prop := namerOnceRow.holds Try.pinned (OpenSpec.ofChange namerOnceWrong)

/-- 'switchboardlaw18.NamerApart': WHATEVER THE INPUT: true; the input reads as it did. -/
def namerApartSpec : ChangeSpec := { name := "namerApart", fn := fun _ => fun
  | [d1, d2, d3, d4, d5, d6] => { results := [.lit (.bool true)], args := [d1, d2, d3, d4, d5, d6] }
  | _ => none }
def namerApartRow : OpenClaim := { program := "ytfahmfaakjnpcaa", sum := "e086a5401975d446d629dd4299d808aeaba6527ee6faeaa07d42c648f9e50919", func := "switchboard/switchboardlaw18.NamerApart", spec := "namerApart", inPlace := ["slices.overlaps[switchboard/api.Known]"], unfollowed := true, recurses := true, apart := false }
def NamerApartSaid : Prop := namerApartRow.holds Try.pinned (OpenSpec.ofChange namerApartSpec)

/-- ITS FALSE NEIGHBOUR: 'it returns false'. Refute it at one input. -/
def namerApartWrong : ChangeSpec := { name := "namerApart", fn := fun _ => fun
  | [d1, d2, d3, d4, d5, d6] => { results := [.lit (.bool false)], args := [d1, d2, d3, d4, d5, d6] }
  | _ => none }
def NamerApartWrongFalsely : Prop := namerApartRow.holds Try.pinned (OpenSpec.ofChange namerApartWrong)

/-- 'switchboardlaw18.NamerOver': WHATEVER THE INPUT: true; the input reads as it did. -/
def namerOverSpec : ChangeSpec := { name := "namerOver", fn := fun _ => fun
  | [d1, d2, d3, d4] => { results := [.lit (.bool true)], args := [d1, d2, d3, d4] }
  | _ => none }
def namerOverRow : OpenClaim := { program := "ytfahmfaakjnpcaa", sum := "e086a5401975d446d629dd4299d808aeaba6527ee6faeaa07d42c648f9e50919", func := "switchboard/switchboardlaw18.NamerOver", spec := "namerOver", inPlace := ["slices.overlaps[switchboard/api.Known]"], unfollowed := true, recurses := true, apart := false }
def NamerOverSaid : Prop := namerOverRow.holds Try.pinned (OpenSpec.ofChange namerOverSpec)

/-- ITS FALSE NEIGHBOUR: 'it returns false'. Refute it at one input. -/
def namerOverWrong : ChangeSpec := { name := "namerOver", fn := fun _ => fun
  | [d1, d2, d3, d4] => { results := [.lit (.bool false)], args := [d1, d2, d3, d4] }
  | _ => none }
def NamerOverWrongFalsely : Prop := namerOverRow.holds Try.pinned (OpenSpec.ofChange namerOverWrong)

/-- 'switchboardlaw18.NamerTells': WHATEVER THE INPUT: true; the input reads as it did. -/
def namerTellsSpec : ChangeSpec := { name := "namerTells", fn := fun _ => fun
  | [d1, d2, d3, d4, d5, d6] => { results := [.lit (.bool true)], args := [d1, d2, d3, d4, d5, d6] }
  | _ => none }
def namerTellsRow : OpenClaim := { program := "ytfahmfaakjnpcaa", sum := "e086a5401975d446d629dd4299d808aeaba6527ee6faeaa07d42c648f9e50919", func := "switchboard/switchboardlaw18.NamerTells", spec := "namerTells", inPlace := ["slices.overlaps[switchboard/api.Known]"], unfollowed := true, recurses := true, apart := false }
def NamerTellsSaid : Prop := namerTellsRow.holds Try.pinned (OpenSpec.ofChange namerTellsSpec)

/-- ITS FALSE NEIGHBOUR: 'it returns false'. Refute it at one input. -/
def namerTellsWrong : ChangeSpec := { name := "namerTells", fn := fun _ => fun
  | [d1, d2, d3, d4, d5, d6] => { results := [.lit (.bool false)], args := [d1, d2, d3, d4, d5, d6] }
  | _ => none }
def NamerTellsWrongFalsely : Prop := namerTellsRow.holds Try.pinned (OpenSpec.ofChange namerTellsWrong)

/- THE SECOND FORM. 'bulk': how many values and letters a reading holds, each counted each time it is reached (what is shared counts as often as it is met; a slice's spare places count too). A statement '..UptoSaid' is the law's where the arguments, and the package variables that the reading takes, are together of bulk at most 1048576: NARROWER than '..Said'. Prove '..Said' where nothing that the law and all that it calls make is longer than what came in: it says more and counts as full. Else prove '..UptoSaid'. A law counts once. -/
mutual
def uptoBulk {H : Type} : DataW H → Nat
  | .lit (.string bytes) => bytes.length + 1
  | .lit _ => 1
  | .nil => 1
  | .ptr d => uptoBulk d + 1
  | .slice elems spare => uptoBulkAll elems + uptoBulkAll spare + 1
  | .agg parts => uptoBulkAll parts + 1
  | .iface _ d => uptoBulk d + 1
  | .map entries => uptoBulkEntries entries + 1
  | .held _ => 1
def uptoBulkAll {H : Type} : List (DataW H) → Nat
  | [] => 0
  | d :: r => uptoBulk d + uptoBulkAll r
def uptoBulkEntries {H : Type} : List (Lit × DataW H) → Nat
  | [] => 0
  | x :: r => uptoBulkEntry x + uptoBulkEntries r
def uptoBulkEntry {H : Type} : Lit × DataW H → Nat
  | (.string bytes, d) => bytes.length + uptoBulk d + 1
  | (_, d) => uptoBulk d + 1
 end
def uptoSmall : (H : Type) → List (DataW H) → Bool := fun _ ds => decide (uptoBulkAll ds ≤ 1048576)
def OpenSpec.upto (s : _root_.Go.ChangeSpec) : _root_.Go.OpenSpec := { _root_.Go.OpenSpec.ofChange s with cond := some uptoSmall }

/-- 'switchboardlaw18.NamerOnce', WHERE WHAT IT READS IS OF BULK AT MOST 1048576: true; the input reads as it did. -/
def namerOnceUptoRow : OpenClaim := { program := "ytfahmfaakjnpcaa", sum := "e086a5401975d446d629dd4299d808aeaba6527ee6faeaa07d42c648f9e50919", func := "switchboard/switchboardlaw18.NamerOnce", spec := "namerOnce", inPlace := ["slices.overlaps[switchboard/api.Known]"], unfollowed := true, recurses := true, apart := false, narrowed := true }
def NamerOnceUptoSaid : Prop := namerOnceUptoRow.holds Try.pinned (OpenSpec.upto namerOnceSpec)

/-- 'switchboardlaw18.NamerApart', WHERE WHAT IT READS IS OF BULK AT MOST 1048576: true; the input reads as it did. -/
def namerApartUptoRow : OpenClaim := { program := "ytfahmfaakjnpcaa", sum := "e086a5401975d446d629dd4299d808aeaba6527ee6faeaa07d42c648f9e50919", func := "switchboard/switchboardlaw18.NamerApart", spec := "namerApart", inPlace := ["slices.overlaps[switchboard/api.Known]"], unfollowed := true, recurses := true, apart := false, narrowed := true }
def NamerApartUptoSaid : Prop := namerApartUptoRow.holds Try.pinned (OpenSpec.upto namerApartSpec)

/-- 'switchboardlaw18.NamerOver', WHERE WHAT IT READS IS OF BULK AT MOST 1048576: true; the input reads as it did. -/
def namerOverUptoRow : OpenClaim := { program := "ytfahmfaakjnpcaa", sum := "e086a5401975d446d629dd4299d808aeaba6527ee6faeaa07d42c648f9e50919", func := "switchboard/switchboardlaw18.NamerOver", spec := "namerOver", inPlace := ["slices.overlaps[switchboard/api.Known]"], unfollowed := true, recurses := true, apart := false, narrowed := true }
def NamerOverUptoSaid : Prop := namerOverUptoRow.holds Try.pinned (OpenSpec.upto namerOverSpec)

/-- 'switchboardlaw18.NamerTells', WHERE WHAT IT READS IS OF BULK AT MOST 1048576: true; the input reads as it did. -/
def namerTellsUptoRow : OpenClaim := { program := "ytfahmfaakjnpcaa", sum := "e086a5401975d446d629dd4299d808aeaba6527ee6faeaa07d42c648f9e50919", func := "switchboard/switchboardlaw18.NamerTells", spec := "namerTells", inPlace := ["slices.overlaps[switchboard/api.Known]"], unfollowed := true, recurses := true, apart := false, narrowed := true }
def NamerTellsUptoSaid : Prop := namerTellsUptoRow.holds Try.pinned (OpenSpec.upto namerTellsSpec)

end Rows
end Go.Proofs.Ytfahmfaakjnpcaa
