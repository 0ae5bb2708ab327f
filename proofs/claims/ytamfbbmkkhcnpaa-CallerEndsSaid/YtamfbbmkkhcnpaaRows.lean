/-
  No cell of these rows narrows 'for every input' (looked for: loops, veiled, ifaces, maps, wideKeys, modest, calm, conditions, laid).
  DERIVED. THE GIVEN ROWS OF THIS SEAT. 3 by the template 'for every input the law returns true; each argument reads behind the call as it read before'; 0 by the template 'total and deterministic' (their statements: YtamfbbmkkhcnpaaTotals.lean).
  GIVEN WITH THE SEED: the statements are not yours to turn. If you find one false, say at which input.
  Laid BY PROGRAM, IN A SANDBOX (cutbox-rows.mjs): the forced cells as the released guide's own fill.sh prints them over the translation 9ba1c10cb0fdec28… (all of the seat's roots in one cut). By AI agents, Wed Nov 11 2026. No macro, syntax, notation, axiom, sorry.
-/
import Derived.Test.YtamfbbmkkhcnpaaChecked
import GoSem.Claim
import GoSem.ClaimJoined
import GoSem.ClaimMapViews
import Derived.JoinedTies
import Derived.KernelRfl
namespace Go.Proofs.Ytamfbbmkkhcnpaa
/- THE CELL 'sum', in the pinned program and in every row, IS THE sha256 OF THE DUMP (.gsa) THAT YtamfbbmkkhcnpaaProg.lean LOADS. Nothing in Lean hashes anything: it is a label: what it is worth is what the hold of that sum in a sandbox is worth. -/
noncomputable def Try.pinned : Pinned := { name := "ytamfbbmkkhcnpaa", sum := "9ba1c10cb0fdec28eb6b53f53516598a4f4077f78f943822e9b7a009baf17218", checked := Try.checked }
namespace Rows
def none {H : Type} : Left H := { results := [], args := [] }

/-- 'switchboardlaw26.CallerEnds': WHATEVER THE INPUT: true; the input reads as it did. -/
def callerEndsSpec : ChangeSpec := { name := "callerEnds", fn := fun _ => fun
  | [d1, d2, d3] => { results := [.lit (.bool true)], args := [d1, d2, d3] }
  | _ => none }
def callerEndsRow : OpenClaim := { program := "ytamfbbmkkhcnpaa", sum := "9ba1c10cb0fdec28eb6b53f53516598a4f4077f78f943822e9b7a009baf17218", func := "switchboard/switchboardlaw26.CallerEnds", spec := "callerEnds", unfollowed := true, recurses := true, apart := false }
def CallerEndsSaid : Prop := callerEndsRow.holds Try.pinned (OpenSpec.ofChange callerEndsSpec)

/-- ITS FALSE NEIGHBOUR: 'it returns false'. Refute it at one input. -/
def callerEndsWrong : ChangeSpec := { name := "callerEnds", fn := fun _ => fun
  | [d1, d2, d3] => { results := [.lit (.bool false)], args := [d1, d2, d3] }
  | _ => none }
def CallerEndsWrongFalsely : Prop := callerEndsRow.holds Try.pinned (OpenSpec.ofChange callerEndsWrong)

/-- 'switchboardlaw26.CallerDucts': WHATEVER THE INPUT: true; the input reads as it did. -/
def callerDuctsSpec : ChangeSpec := { name := "callerDucts", fn := fun _ => fun
  | [d1, d2, d3] => { results := [.lit (.bool true)], args := [d1, d2, d3] }
  | _ => none }
def callerDuctsRow : OpenClaim := { program := "ytamfbbmkkhcnpaa", sum := "9ba1c10cb0fdec28eb6b53f53516598a4f4077f78f943822e9b7a009baf17218", func := "switchboard/switchboardlaw26.CallerDucts", spec := "callerDucts", unfollowed := true, recurses := true, apart := false }
def CallerDuctsSaid : Prop := callerDuctsRow.holds Try.pinned (OpenSpec.ofChange callerDuctsSpec)

/-- ITS FALSE NEIGHBOUR: 'it returns false'. Refute it at one input. -/
def callerDuctsWrong : ChangeSpec := { name := "callerDucts", fn := fun _ => fun
  | [d1, d2, d3] => { results := [.lit (.bool false)], args := [d1, d2, d3] }
  | _ => none }
def CallerDuctsWrongFalsely : Prop := callerDuctsRow.holds Try.pinned (OpenSpec.ofChange callerDuctsWrong)

/-- 'switchboardlaw26.CallerCloses': WHATEVER THE INPUT: true; the input reads as it did. -/
def callerClosesSpec : ChangeSpec := { name := "callerCloses", fn := fun _ => fun
  | [d1, d2, d3] => { results := [.lit (.bool true)], args := [d1, d2, d3] }
  | _ => none }
def callerClosesRow : OpenClaim := { program := "ytamfbbmkkhcnpaa", sum := "9ba1c10cb0fdec28eb6b53f53516598a4f4077f78f943822e9b7a009baf17218", func := "switchboard/switchboardlaw26.CallerCloses", spec := "callerCloses", unfollowed := true, recurses := true, apart := false }
def CallerClosesSaid : Prop := callerClosesRow.holds Try.pinned (OpenSpec.ofChange callerClosesSpec)

/-- ITS FALSE NEIGHBOUR: 'it returns false'. Refute it at one input. -/
def callerClosesWrong : ChangeSpec := { name := "callerCloses", fn := fun _ => fun
  | [d1, d2, d3] => { results := [.lit (.bool false)], args := [d1, d2, d3] }
  | _ => none }
def CallerClosesWrongFalsely : Prop := callerClosesRow.holds Try.pinned (OpenSpec.ofChange callerClosesWrong)

/- THE SECOND FORM. 'bulk': how many values and letters a reading holds, each counted each time it is reached (what is shared counts as often as it is met; a slice's spare places count too). A statement '..UptoSaid' is the law's where the arguments, and the package variables that the reading takes, are together of bulk at most 1048576: NARROWER than '..Said'. Prove '..Said' where nothing that the law and all that it calls make is longer than what came in: it says more and counts as full. Else prove '..UptoSaid'. A law counts once. -/
mutual
def uptoBulk {H : Type} : DataW H → Nat
  | .lit (.string bytes) => bytes.length + 1
  | .lit _ => 1
  | .nil => 1
  | .ptr d => uptoBulk d + 1
  | .slice elems spare => uptoBulkAll elems + uptoBulkAll spare + 1
  | .agg parts => uptoBulkAll parts + 1
  | .iface _ d => uptoBulk d + 1
  | .map entries => uptoBulkEntries entries + 1
  | .held _ => 1
def uptoBulkAll {H : Type} : List (DataW H) → Nat
  | [] => 0
  | d :: r => uptoBulk d + uptoBulkAll r
def uptoBulkEntries {H : Type} : List (Lit × DataW H) → Nat
  | [] => 0
  | x :: r => uptoBulkEntry x + uptoBulkEntries r
def uptoBulkEntry {H : Type} : Lit × DataW H → Nat
  | (.string bytes, d) => bytes.length + uptoBulk d + 1
  | (_, d) => uptoBulk d + 1
 end
def uptoSmall : (H : Type) → List (DataW H) → Bool := fun _ ds => decide (uptoBulkAll ds ≤ 1048576)
def OpenSpec.upto (s : _root_.Go.ChangeSpec) : _root_.Go.OpenSpec := { _root_.Go.OpenSpec.ofChange s with cond := some uptoSmall }

/-- 'switchboardlaw26.CallerEnds', WHERE WHAT IT READS IS OF BULK AT MOST 1048576: true; the input reads as it did. -/
def callerEndsUptoRow : OpenClaim := { program := "ytamfbbmkkhcnpaa", sum := "9ba1c10cb0fdec28eb6b53f53516598a4f4077f78f943822e9b7a009baf17218", func := "switchboard/switchboardlaw26.CallerEnds", spec := "callerEnds", unfollowed := true, recurses := true, apart := false, narrowed := true }
def CallerEndsUptoSaid : Prop := callerEndsUptoRow.holds Try.pinned (OpenSpec.upto callerEndsSpec)

/-- 'switchboardlaw26.CallerDucts', WHERE WHAT IT READS IS OF BULK AT MOST 1048576: true; the input reads as it did. -/
def callerDuctsUptoRow : OpenClaim := { program := "ytamfbbmkkhcnpaa", sum := "9ba1c10cb0fdec28eb6b53f53516598a4f4077f78f943822e9b7a009baf17218", func := "switchboard/switchboardlaw26.CallerDucts", spec := "callerDucts", unfollowed := true, recurses := true, apart := false, narrowed := true }
def CallerDuctsUptoSaid : Prop := callerDuctsUptoRow.holds Try.pinned (OpenSpec.upto callerDuctsSpec)

/-- 'switchboardlaw26.CallerCloses', WHERE WHAT IT READS IS OF BULK AT MOST 1048576: true; the input reads as it did. -/
def callerClosesUptoRow : OpenClaim := { program := "ytamfbbmkkhcnpaa", sum := "9ba1c10cb0fdec28eb6b53f53516598a4f4077f78f943822e9b7a009baf17218", func := "switchboard/switchboardlaw26.CallerCloses", spec := "callerCloses", unfollowed := true, recurses := true, apart := false, narrowed := true }
def CallerClosesUptoSaid : Prop := callerClosesUptoRow.holds Try.pinned (OpenSpec.upto callerClosesSpec)

end Rows
end Go.Proofs.Ytamfbbmkkhcnpaa
