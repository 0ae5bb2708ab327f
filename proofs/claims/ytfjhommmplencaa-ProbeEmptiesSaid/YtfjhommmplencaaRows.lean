/-
  No cell of these rows narrows 'for every input' (looked for: loops, veiled, ifaces, maps, wideKeys, modest, calm, conditions, laid).
  DERIVED. THE GIVEN ROWS OF THIS SEAT. 4 by the template 'for every input the law returns true; each argument reads behind the call as it read before'; 0 by the template 'total and deterministic' (their statements: YtfjhommmplencaaTotals.lean).
  GIVEN WITH THE SEED: the statements are not yours to turn. If you find one false, say at which input.
  Laid BY PROGRAM, IN A SANDBOX (cutbox-rows.mjs): the forced cells as the released guide's own fill.sh prints them over the translation f7a9dcaf86581635… (all of the seat's roots in one cut). By AI agents, Wed Nov 11 2026. No macro, syntax, notation, axiom, sorry.
-/
import Derived.Test.YtfjhommmplencaaChecked
import GoSem.Claim
import GoSem.ClaimJoined
import GoSem.ClaimMapViews
import Derived.JoinedTies
import Derived.KernelRfl
namespace Go.Proofs.Ytfjhommmplencaa
/- THE CELL 'sum', in the pinned program and in every row, IS THE sha256 OF THE DUMP (.gsa) THAT YtfjhommmplencaaProg.lean LOADS. Nothing in Lean hashes anything: it is a label: what it is worth is what the hold of that sum in a sandbox is worth. -/
noncomputable def Try.pinned : Pinned := { name := "ytfjhommmplencaa", sum := "f7a9dcaf86581635ad264daef32e64c14561c59696bc9fd7cb1014b035aa4f0f", checked := Try.checked }
namespace Rows
def none {H : Type} : Left H := { results := [], args := [] }

/-- 'switchboardlaw22.ProbeWhen': WHATEVER THE INPUT: true; the input reads as it did. -/
def probeWhenSpec : ChangeSpec := { name := "probeWhen", fn := fun _ => fun
  | [d1, d2] => { results := [.lit (.bool true)], args := [d1, d2] }
  | _ => none }
def probeWhenRow : OpenClaim := { program := "ytfjhommmplencaa", sum := "f7a9dcaf86581635ad264daef32e64c14561c59696bc9fd7cb1014b035aa4f0f", func := "switchboard/switchboardlaw22.ProbeWhen", spec := "probeWhen", unfollowed := true, recurses := true, apart := false }
def ProbeWhenSaid : Prop := probeWhenRow.holds Try.pinned (OpenSpec.ofChange probeWhenSpec)

/-- ITS FALSE NEIGHBOUR: 'it returns false'. Refute it at one input. -/
def probeWhenWrong : ChangeSpec := { name := "probeWhen", fn := fun _ => fun
  | [d1, d2] => { results := [.lit (.bool false)], args := [d1, d2] }
  | _ => none }
def ProbeWhenWrongFalsely : Prop := probeWhenRow.holds Try.pinned (OpenSpec.ofChange probeWhenWrong)

/-- 'switchboardlaw22.ProbeEmpties': WHATEVER THE INPUT: true; the input reads as it did. -/
def probeEmptiesSpec : ChangeSpec := { name := "probeEmpties", fn := fun _ => fun
  | [d1, d2, d3, d4] => { results := [.lit (.bool true)], args := [d1, d2, d3, d4] }
  | _ => none }
def probeEmptiesRow : OpenClaim := { program := "ytfjhommmplencaa", sum := "f7a9dcaf86581635ad264daef32e64c14561c59696bc9fd7cb1014b035aa4f0f", func := "switchboard/switchboardlaw22.ProbeEmpties", spec := "probeEmpties", unfollowed := true, recurses := true, apart := false }
def ProbeEmptiesSaid : Prop := probeEmptiesRow.holds Try.pinned (OpenSpec.ofChange probeEmptiesSpec)

/-- ITS FALSE NEIGHBOUR: 'it returns false'. Refute it at one input. -/
def probeEmptiesWrong : ChangeSpec := { name := "probeEmpties", fn := fun _ => fun
  | [d1, d2, d3, d4] => { results := [.lit (.bool false)], args := [d1, d2, d3, d4] }
  | _ => none }
def ProbeEmptiesWrongFalsely : Prop := probeEmptiesRow.holds Try.pinned (OpenSpec.ofChange probeEmptiesWrong)

/-- 'switchboardlaw22.ProbeParts': WHATEVER THE INPUT: true; the input reads as it did. -/
def probePartsSpec : ChangeSpec := { name := "probeParts", fn := fun _ => fun
  | [d1, d2, d3, d4] => { results := [.lit (.bool true)], args := [d1, d2, d3, d4] }
  | _ => none }
def probePartsRow : OpenClaim := { program := "ytfjhommmplencaa", sum := "f7a9dcaf86581635ad264daef32e64c14561c59696bc9fd7cb1014b035aa4f0f", func := "switchboard/switchboardlaw22.ProbeParts", spec := "probeParts", unfollowed := true, recurses := true, apart := false }
def ProbePartsSaid : Prop := probePartsRow.holds Try.pinned (OpenSpec.ofChange probePartsSpec)

/-- ITS FALSE NEIGHBOUR: 'it returns false'. Refute it at one input. -/
def probePartsWrong : ChangeSpec := { name := "probeParts", fn := fun _ => fun
  | [d1, d2, d3, d4] => { results := [.lit (.bool false)], args := [d1, d2, d3, d4] }
  | _ => none }
def ProbePartsWrongFalsely : Prop := probePartsRow.holds Try.pinned (OpenSpec.ofChange probePartsWrong)

/-- 'switchboardlaw22.ProbeTells': WHATEVER THE INPUT: true; the input reads as it did. -/
def probeTellsSpec : ChangeSpec := { name := "probeTells", fn := fun _ => fun
  | [d1, d2, d3, d4, d5] => { results := [.lit (.bool true)], args := [d1, d2, d3, d4, d5] }
  | _ => none }
def probeTellsRow : OpenClaim := { program := "ytfjhommmplencaa", sum := "f7a9dcaf86581635ad264daef32e64c14561c59696bc9fd7cb1014b035aa4f0f", func := "switchboard/switchboardlaw22.ProbeTells", spec := "probeTells", unfollowed := true, recurses := true, apart := false }
def ProbeTellsSaid : Prop := probeTellsRow.holds Try.pinned (OpenSpec.ofChange probeTellsSpec)

/-- ITS FALSE NEIGHBOUR: 'it returns false'. Refute it at one input. -/
def probeTellsWrong : ChangeSpec := { name := "probeTells", fn := fun _ => fun
  | [d1, d2, d3, d4, d5] => { results := [.lit (.bool false)], args := [d1, d2, d3, d4, d5] }
  | _ => none }
def ProbeTellsWrongFalsely : Prop := probeTellsRow.holds Try.pinned (OpenSpec.ofChange probeTellsWrong)

/- THE SECOND FORM. 'bulk': how many values and letters a reading holds, each counted each time it is reached (what is shared counts as often as it is met; a slice's spare places count too). A statement '..UptoSaid' is the law's where the arguments, and the package variables that the reading takes, are together of bulk at most 1048576: NARROWER than '..Said'. Prove '..Said' where nothing that the law and all that it calls make is longer than what came in: it says more and counts as full. Else prove '..UptoSaid'. A law counts once. -/
mutual
def uptoBulk {H : Type} : DataW H → Nat
  | .lit (.string bytes) => bytes.length + 1
  | .lit _ => 1
  | .nil => 1
  | .ptr d => uptoBulk d + 1
  | .slice elems spare => uptoBulkAll elems + uptoBulkAll spare + 1
  | .agg parts => uptoBulkAll parts + 1
  | .iface _ d => uptoBulk d + 1
  | .map entries => uptoBulkEntries entries + 1
  | .held _ => 1
def uptoBulkAll {H : Type} : List (DataW H) → Nat
  | [] => 0
  | d :: r => uptoBulk d + uptoBulkAll r
def uptoBulkEntries {H : Type} : List (Lit × DataW H) → Nat
  | [] => 0
  | x :: r => uptoBulkEntry x + uptoBulkEntries r
def uptoBulkEntry {H : Type} : Lit × DataW H → Nat
  | (.string bytes, d) => bytes.length + uptoBulk d + 1
  | (_, d) => uptoBulk d + 1
 end
def uptoSmall : (H : Type) → List (DataW H) → Bool := fun _ ds => decide (uptoBulkAll ds ≤ 1048576)
def OpenSpec.upto (s : _root_.Go.ChangeSpec) : _root_.Go.OpenSpec := { _root_.Go.OpenSpec.ofChange s with cond := some uptoSmall }

/-- 'switchboardlaw22.ProbeWhen', WHERE WHAT IT READS IS OF BULK AT MOST 1048576: true; the input reads as it did. -/
def probeWhenUptoRow : OpenClaim := { program := "ytfjhommmplencaa", sum := "f7a9dcaf86581635ad264daef32e64c14561c59696bc9fd7cb1014b035aa4f0f", func := "switchboard/switchboardlaw22.ProbeWhen", spec := "probeWhen", unfollowed := true, recurses := true, apart := false, narrowed := true }
def ProbeWhenUptoSaid : Prop := probeWhenUptoRow.holds Try.pinned (OpenSpec.upto probeWhenSpec)

/-- 'switchboardlaw22.ProbeEmpties', WHERE WHAT IT READS IS OF BULK AT MOST 1048576: true; the input reads as it did. -/
def probeEmptiesUptoRow : OpenClaim := { program := "ytfjhommmplencaa", sum := "f7a9dcaf86581635ad264daef32e64c14561c59696bc9fd7cb1014b035aa4f0f", func := "switchboard/switchboardlaw22.ProbeEmpties", spec := "probeEmpties", unfollowed := true, recurses := true, apart := false, narrowed := true }
def ProbeEmptiesUptoSaid : Prop := probeEmptiesUptoRow.holds Try.pinned (OpenSpec.upto probeEmptiesSpec)

/-- 'switchboardlaw22.ProbeParts', WHERE WHAT IT READS IS OF BULK AT MOST 1048576: true; the input reads as it did. -/
def probePartsUptoRow : OpenClaim := { program := "ytfjhommmplencaa", sum := "f7a9dcaf86581635ad264daef32e64c14561c59696bc9fd7cb1014b035aa4f0f", func := "switchboard/switchboardlaw22.ProbeParts", spec := "probeParts", unfollowed := true, recurses := true, apart := false, narrowed := true }
def ProbePartsUptoSaid : Prop := probePartsUptoRow.holds Try.pinned (OpenSpec.upto probePartsSpec)

/-- 'switchboardlaw22.ProbeTells', WHERE WHAT IT READS IS OF BULK AT MOST 1048576: true; the input reads as it did. -/
def probeTellsUptoRow : OpenClaim := { program := "ytfjhommmplencaa", sum := "f7a9dcaf86581635ad264daef32e64c14561c59696bc9fd7cb1014b035aa4f0f", func := "switchboard/switchboardlaw22.ProbeTells", spec := "probeTells", unfollowed := true, recurses := true, apart := false, narrowed := true }
def ProbeTellsUptoSaid : Prop := probeTellsUptoRow.holds Try.pinned (OpenSpec.upto probeTellsSpec)

end Rows
end Go.Proofs.Ytfjhommmplencaa
