/-
  No cell of these rows narrows 'for every input' (looked for: loops, veiled, ifaces, maps, wideKeys, modest, calm, conditions, laid).
  DERIVED. THE GIVEN ROWS OF THIS SEAT. 4 by the template 'for every input the law returns true; each argument reads behind the call as it read before'; 0 by the template 'total and deterministic' (their statements: YtcmgcbkhjdeinaaTotals.lean).
  GIVEN WITH THE SEED: the statements are not yours to turn. If you find one false, say at which input.
  Laid BY PROGRAM, IN A SANDBOX (cutbox-rows.mjs): the forced cells as the released guide's own fill.sh prints them over the translation 00d80b8488694573… (all of the seat's roots in one cut). By AI agents, Wed Nov 11 2026. No macro, syntax, notation, axiom, sorry.
-/
import Derived.Test.YtcmgcbkhjdeinaaChecked
import GoSem.Claim
import GoSem.ClaimJoined
import GoSem.ClaimMapViews
import Derived.JoinedTies
import Derived.KernelRfl
namespace Go.Proofs.Ytcmgcbkhjdeinaa
/- THE CELL 'sum', in the pinned program and in every row, IS THE sha256 OF THE DUMP (.gsa) THAT YtcmgcbkhjdeinaaProg.lean LOADS. Nothing in Lean hashes anything: it is a label: what it is worth is what the hold of that sum in a sandbox is worth. -/
noncomputable def Try.pinned : Pinned := { name := "ytcmgcbkhjdeinaa", sum := "00d80b8488694573525a2f115871678b54d384a83d10662626dcd5a0a7b6fd16", checked := Try.checked }
namespace Rows
def none {H : Type} : Left H := { results := [], args := [] }

/-- 'switchboardlaw14.PaceBreaks': WHATEVER THE INPUT: true; the input reads as it did. -/
def paceBreaksSpec : ChangeSpec := { name := "paceBreaks", fn := fun _ => fun
  | [d1, d2, d3] => { results := [.lit (.bool true)], args := [d1, d2, d3] }
  | _ => none }
def paceBreaksRow : OpenClaim := { program := "ytcmgcbkhjdeinaa", sum := "00d80b8488694573525a2f115871678b54d384a83d10662626dcd5a0a7b6fd16", func := "switchboard/switchboardlaw14.PaceBreaks", spec := "paceBreaks", unfollowed := true, recurses := true, apart := false }
def PaceBreaksSaid : Prop := paceBreaksRow.holds Try.pinned (OpenSpec.ofChange paceBreaksSpec)

/-- ITS FALSE NEIGHBOUR: 'it returns false'. Refute it at one input. -/
def paceBreaksWrong : ChangeSpec := { name := "paceBreaks", fn := fun _ => fun
  | [d1, d2, d3] => { results := [.lit (.bool false)], args := [d1, d2, d3] }
  | _ => none }
def PaceBreaksWrongFalsely : Prop := paceBreaksRow.holds Try.pinned (OpenSpec.ofChange paceBreaksWrong)

/-- 'switchboardlaw14.PaceKeeps': WHATEVER THE INPUT: true; the input reads as it did. -/
def paceKeepsSpec : ChangeSpec := { name := "paceKeeps", fn := fun _ => fun
  | [d1, d2, d3] => { results := [.lit (.bool true)], args := [d1, d2, d3] }
  | _ => none }
def paceKeepsRow : OpenClaim := { program := "ytcmgcbkhjdeinaa", sum := "00d80b8488694573525a2f115871678b54d384a83d10662626dcd5a0a7b6fd16", func := "switchboard/switchboardlaw14.PaceKeeps", spec := "paceKeeps", unfollowed := true, recurses := true, apart := false }
def PaceKeepsSaid : Prop := paceKeepsRow.holds Try.pinned (OpenSpec.ofChange paceKeepsSpec)

/-- ITS FALSE NEIGHBOUR: 'it returns false'. Refute it at one input. -/
def paceKeepsWrong : ChangeSpec := { name := "paceKeeps", fn := fun _ => fun
  | [d1, d2, d3] => { results := [.lit (.bool false)], args := [d1, d2, d3] }
  | _ => none }
def PaceKeepsWrongFalsely : Prop := paceKeepsRow.holds Try.pinned (OpenSpec.ofChange paceKeepsWrong)

/-- 'switchboardlaw14.PaceBegins': WHATEVER THE INPUT: true; the input reads as it did. -/
def paceBeginsSpec : ChangeSpec := { name := "paceBegins", fn := fun _ => fun
  | [d1, d2, d3, d4] => { results := [.lit (.bool true)], args := [d1, d2, d3, d4] }
  | _ => none }
def paceBeginsRow : OpenClaim := { program := "ytcmgcbkhjdeinaa", sum := "00d80b8488694573525a2f115871678b54d384a83d10662626dcd5a0a7b6fd16", func := "switchboard/switchboardlaw14.PaceBegins", spec := "paceBegins", unfollowed := true, recurses := true, apart := false }
def PaceBeginsSaid : Prop := paceBeginsRow.holds Try.pinned (OpenSpec.ofChange paceBeginsSpec)

/-- ITS FALSE NEIGHBOUR: 'it returns false'. Refute it at one input. -/
def paceBeginsWrong : ChangeSpec := { name := "paceBegins", fn := fun _ => fun
  | [d1, d2, d3, d4] => { results := [.lit (.bool false)], args := [d1, d2, d3, d4] }
  | _ => none }
def PaceBeginsWrongFalsely : Prop := paceBeginsRow.holds Try.pinned (OpenSpec.ofChange paceBeginsWrong)

/-- 'switchboardlaw14.PacePlans': WHATEVER THE INPUT: true; the input reads as it did. -/
def pacePlansSpec : ChangeSpec := { name := "pacePlans", fn := fun _ => fun
  | [d1, d2, d3, d4] => { results := [.lit (.bool true)], args := [d1, d2, d3, d4] }
  | _ => none }
def pacePlansRow : OpenClaim := { program := "ytcmgcbkhjdeinaa", sum := "00d80b8488694573525a2f115871678b54d384a83d10662626dcd5a0a7b6fd16", func := "switchboard/switchboardlaw14.PacePlans", spec := "pacePlans", unfollowed := true, recurses := true, apart := false }
def PacePlansSaid : Prop := pacePlansRow.holds Try.pinned (OpenSpec.ofChange pacePlansSpec)

/-- ITS FALSE NEIGHBOUR: 'it returns false'. Refute it at one input. -/
def pacePlansWrong : ChangeSpec := { name := "pacePlans", fn := fun _ => fun
  | [d1, d2, d3, d4] => { results := [.lit (.bool false)], args := [d1, d2, d3, d4] }
  | _ => none }
def PacePlansWrongFalsely : Prop := pacePlansRow.holds Try.pinned (OpenSpec.ofChange pacePlansWrong)

/- THE SECOND FORM. 'bulk': how many values and letters a reading holds, each counted each time it is reached (what is shared counts as often as it is met; a slice's spare places count too). A statement '..UptoSaid' is the law's where the arguments, and the package variables that the reading takes, are together of bulk at most 1048576: NARROWER than '..Said'. Prove '..Said' where nothing that the law and all that it calls make is longer than what came in: it says more and counts as full. Else prove '..UptoSaid'. A law counts once. -/
mutual
def uptoBulk {H : Type} : DataW H → Nat
  | .lit (.string bytes) => bytes.length + 1
  | .lit _ => 1
  | .nil => 1
  | .ptr d => uptoBulk d + 1
  | .slice elems spare => uptoBulkAll elems + uptoBulkAll spare + 1
  | .agg parts => uptoBulkAll parts + 1
  | .iface _ d => uptoBulk d + 1
  | .map entries => uptoBulkEntries entries + 1
  | .held _ => 1
def uptoBulkAll {H : Type} : List (DataW H) → Nat
  | [] => 0
  | d :: r => uptoBulk d + uptoBulkAll r
def uptoBulkEntries {H : Type} : List (Lit × DataW H) → Nat
  | [] => 0
  | x :: r => uptoBulkEntry x + uptoBulkEntries r
def uptoBulkEntry {H : Type} : Lit × DataW H → Nat
  | (.string bytes, d) => bytes.length + uptoBulk d + 1
  | (_, d) => uptoBulk d + 1
 end
def uptoSmall : (H : Type) → List (DataW H) → Bool := fun _ ds => decide (uptoBulkAll ds ≤ 1048576)
def OpenSpec.upto (s : _root_.Go.ChangeSpec) : _root_.Go.OpenSpec := { _root_.Go.OpenSpec.ofChange s with cond := some uptoSmall }

/-- 'switchboardlaw14.PaceBreaks', WHERE WHAT IT READS IS OF BULK AT MOST 1048576: true; the input reads as it did. -/
def paceBreaksUptoRow : OpenClaim := { program := "ytcmgcbkhjdeinaa", sum := "00d80b8488694573525a2f115871678b54d384a83d10662626dcd5a0a7b6fd16", func := "switchboard/switchboardlaw14.PaceBreaks", spec := "paceBreaks", unfollowed := true, recurses := true, apart := false, narrowed := true }
def PaceBreaksUptoSaid : Prop := paceBreaksUptoRow.holds Try.pinned (OpenSpec.upto paceBreaksSpec)

/-- 'switchboardlaw14.PaceKeeps', WHERE WHAT IT READS IS OF BULK AT MOST 1048576: true; the input reads as it did. -/
def paceKeepsUptoRow : OpenClaim := { program := "ytcmgcbkhjdeinaa", sum := "00d80b8488694573525a2f115871678b54d384a83d10662626dcd5a0a7b6fd16", func := "switchboard/switchboardlaw14.PaceKeeps", spec := "paceKeeps", unfollowed := true, recurses := true, apart := false, narrowed := true }
def PaceKeepsUptoSaid : Prop := paceKeepsUptoRow.holds Try.pinned (OpenSpec.upto paceKeepsSpec)

/-- 'switchboardlaw14.PaceBegins', WHERE WHAT IT READS IS OF BULK AT MOST 1048576: true; the input reads as it did. -/
def paceBeginsUptoRow : OpenClaim := { program := "ytcmgcbkhjdeinaa", sum := "00d80b8488694573525a2f115871678b54d384a83d10662626dcd5a0a7b6fd16", func := "switchboard/switchboardlaw14.PaceBegins", spec := "paceBegins", unfollowed := true, recurses := true, apart := false, narrowed := true }
def PaceBeginsUptoSaid : Prop := paceBeginsUptoRow.holds Try.pinned (OpenSpec.upto paceBeginsSpec)

/-- 'switchboardlaw14.PacePlans', WHERE WHAT IT READS IS OF BULK AT MOST 1048576: true; the input reads as it did. -/
def pacePlansUptoRow : OpenClaim := { program := "ytcmgcbkhjdeinaa", sum := "00d80b8488694573525a2f115871678b54d384a83d10662626dcd5a0a7b6fd16", func := "switchboard/switchboardlaw14.PacePlans", spec := "pacePlans", unfollowed := true, recurses := true, apart := false, narrowed := true }
def PacePlansUptoSaid : Prop := pacePlansUptoRow.holds Try.pinned (OpenSpec.upto pacePlansSpec)

end Rows
end Go.Proofs.Ytcmgcbkhjdeinaa
