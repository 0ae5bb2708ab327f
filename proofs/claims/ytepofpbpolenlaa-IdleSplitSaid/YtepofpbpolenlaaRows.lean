/-
  No cell of these rows narrows 'for every input' (looked for: loops, veiled, ifaces, maps, wideKeys, modest, calm, conditions, laid).
  DERIVED. THE GIVEN ROWS OF THIS SEAT. 5 by the template 'for every input the law returns true; each argument reads behind the call as it read before'; 0 by the template 'total and deterministic' (their statements: YtepofpbpolenlaaTotals.lean).
  GIVEN WITH THE SEED: the statements are not yours to turn. If you find one false, say at which input.
  Laid BY PROGRAM, IN A SANDBOX (cutbox-rows.mjs): the forced cells as the released guide's own fill.sh prints them over the translation daef016480e24666… (all of the seat's roots in one cut). By AI agents, Wed Nov 11 2026. No macro, syntax, notation, axiom, sorry.
-/
import Derived.Test.YtepofpbpolenlaaChecked
import GoSem.Claim
import GoSem.ClaimJoined
import GoSem.ClaimMapViews
import Derived.JoinedTies
import Derived.KernelRfl
namespace Go.Proofs.Ytepofpbpolenlaa
/- THE CELL 'sum', in the pinned program and in every row, IS THE sha256 OF THE DUMP (.gsa) THAT YtepofpbpolenlaaProg.lean LOADS. Nothing in Lean hashes anything: it is a label: what it is worth is what the hold of that sum in a sandbox is worth. -/
noncomputable def Try.pinned : Pinned := { name := "ytepofpbpolenlaa", sum := "daef016480e246664564d7c495a0c92d4104e4b07f45061174e1b613bccace25", checked := Try.checked }
namespace Rows
def none {H : Type} : Left H := { results := [], args := [] }

/-- 'switchboardlaw21.IdleLast': WHATEVER THE INPUT: true; the input reads as it did. -/
def idleLastSpec : ChangeSpec := { name := "idleLast", fn := fun _ => fun
  | [d1, d2, d3] => { results := [.lit (.bool true)], args := [d1, d2, d3] }
  | _ => none }
def idleLastRow : OpenClaim := { program := "ytepofpbpolenlaa", sum := "daef016480e246664564d7c495a0c92d4104e4b07f45061174e1b613bccace25", func := "switchboard/switchboardlaw21.IdleLast", spec := "idleLast", unfollowed := true, recurses := true, apart := false }
def IdleLastSaid : Prop := idleLastRow.holds Try.pinned (OpenSpec.ofChange idleLastSpec)

/-- ITS FALSE NEIGHBOUR: 'it returns false'. Refute it at one input. -/
def idleLastWrong : ChangeSpec := { name := "idleLast", fn := fun _ => fun
  | [d1, d2, d3] => { results := [.lit (.bool false)], args := [d1, d2, d3] }
  | _ => none }
def IdleLastWrongFalsely : Prop := idleLastRow.holds Try.pinned (OpenSpec.ofChange idleLastWrong)

/-- 'switchboardlaw21.IdleAges': WHATEVER THE INPUT: true; the input reads as it did. -/
def idleAgesSpec : ChangeSpec := { name := "idleAges", fn := fun _ => fun
  | [d1, d2, d3] => { results := [.lit (.bool true)], args := [d1, d2, d3] }
  | _ => none }
def idleAgesRow : OpenClaim := { program := "ytepofpbpolenlaa", sum := "daef016480e246664564d7c495a0c92d4104e4b07f45061174e1b613bccace25", func := "switchboard/switchboardlaw21.IdleAges", spec := "idleAges", unfollowed := true, recurses := true, apart := false }
def IdleAgesSaid : Prop := idleAgesRow.holds Try.pinned (OpenSpec.ofChange idleAgesSpec)

/-- ITS FALSE NEIGHBOUR: 'it returns false'. Refute it at one input. -/
def idleAgesWrong : ChangeSpec := { name := "idleAges", fn := fun _ => fun
  | [d1, d2, d3] => { results := [.lit (.bool false)], args := [d1, d2, d3] }
  | _ => none }
def IdleAgesWrongFalsely : Prop := idleAgesRow.holds Try.pinned (OpenSpec.ofChange idleAgesWrong)

/-- 'switchboardlaw21.IdleDrops': WHATEVER THE INPUT: true; the input reads as it did. -/
def idleDropsSpec : ChangeSpec := { name := "idleDrops", fn := fun _ => fun
  | [d1, d2] => { results := [.lit (.bool true)], args := [d1, d2] }
  | _ => none }
def idleDropsRow : OpenClaim := { program := "ytepofpbpolenlaa", sum := "daef016480e246664564d7c495a0c92d4104e4b07f45061174e1b613bccace25", func := "switchboard/switchboardlaw21.IdleDrops", spec := "idleDrops", unfollowed := true, recurses := true, apart := false }
def IdleDropsSaid : Prop := idleDropsRow.holds Try.pinned (OpenSpec.ofChange idleDropsSpec)

/-- ITS FALSE NEIGHBOUR: 'it returns false'. Refute it at one input. -/
def idleDropsWrong : ChangeSpec := { name := "idleDrops", fn := fun _ => fun
  | [d1, d2] => { results := [.lit (.bool false)], args := [d1, d2] }
  | _ => none }
def IdleDropsWrongFalsely : Prop := idleDropsRow.holds Try.pinned (OpenSpec.ofChange idleDropsWrong)

/-- 'switchboardlaw21.IdleSplit': WHATEVER THE INPUT: true; the input reads as it did. -/
def idleSplitSpec : ChangeSpec := { name := "idleSplit", fn := fun _ => fun
  | [d1, d2, d3, d4] => { results := [.lit (.bool true)], args := [d1, d2, d3, d4] }
  | _ => none }
def idleSplitRow : OpenClaim := { program := "ytepofpbpolenlaa", sum := "daef016480e246664564d7c495a0c92d4104e4b07f45061174e1b613bccace25", func := "switchboard/switchboardlaw21.IdleSplit", spec := "idleSplit", unfollowed := true, recurses := true, apart := false }
def IdleSplitSaid : Prop := idleSplitRow.holds Try.pinned (OpenSpec.ofChange idleSplitSpec)

/-- ITS FALSE NEIGHBOUR: 'it returns false'. Refute it at one input. -/
def idleSplitWrong : ChangeSpec := { name := "idleSplit", fn := fun _ => fun
  | [d1, d2, d3, d4] => { results := [.lit (.bool false)], args := [d1, d2, d3, d4] }
  | _ => none }
def IdleSplitWrongFalsely : Prop := idleSplitRow.holds Try.pinned (OpenSpec.ofChange idleSplitWrong)

/-- 'switchboardlaw21.IdleTells': WHATEVER THE INPUT: true; the input reads as it did. -/
def idleTellsSpec : ChangeSpec := { name := "idleTells", fn := fun _ => fun
  | [d1, d2, d3, d4, d5, d6] => { results := [.lit (.bool true)], args := [d1, d2, d3, d4, d5, d6] }
  | _ => none }
def idleTellsRow : OpenClaim := { program := "ytepofpbpolenlaa", sum := "daef016480e246664564d7c495a0c92d4104e4b07f45061174e1b613bccace25", func := "switchboard/switchboardlaw21.IdleTells", spec := "idleTells", unfollowed := true, recurses := true, apart := false }
def IdleTellsSaid : Prop := idleTellsRow.holds Try.pinned (OpenSpec.ofChange idleTellsSpec)

/-- ITS FALSE NEIGHBOUR: 'it returns false'. Refute it at one input. -/
def idleTellsWrong : ChangeSpec := { name := "idleTells", fn := fun _ => fun
  | [d1, d2, d3, d4, d5, d6] => { results := [.lit (.bool false)], args := [d1, d2, d3, d4, d5, d6] }
  | _ => none }
def IdleTellsWrongFalsely : Prop := idleTellsRow.holds Try.pinned (OpenSpec.ofChange idleTellsWrong)

/- THE SECOND FORM. 'bulk': how many values and letters a reading holds, each counted each time it is reached (what is shared counts as often as it is met; a slice's spare places count too). A statement '..UptoSaid' is the law's where the arguments, and the package variables that the reading takes, are together of bulk at most 1048576: NARROWER than '..Said'. Prove '..Said' where nothing that the law and all that it calls make is longer than what came in: it says more and counts as full. Else prove '..UptoSaid'. A law counts once. -/
mutual
def uptoBulk {H : Type} : DataW H → Nat
  | .lit (.string bytes) => bytes.length + 1
  | .lit _ => 1
  | .nil => 1
  | .ptr d => uptoBulk d + 1
  | .slice elems spare => uptoBulkAll elems + uptoBulkAll spare + 1
  | .agg parts => uptoBulkAll parts + 1
  | .iface _ d => uptoBulk d + 1
  | .map entries => uptoBulkEntries entries + 1
  | .held _ => 1
def uptoBulkAll {H : Type} : List (DataW H) → Nat
  | [] => 0
  | d :: r => uptoBulk d + uptoBulkAll r
def uptoBulkEntries {H : Type} : List (Lit × DataW H) → Nat
  | [] => 0
  | x :: r => uptoBulkEntry x + uptoBulkEntries r
def uptoBulkEntry {H : Type} : Lit × DataW H → Nat
  | (.string bytes, d) => bytes.length + uptoBulk d + 1
  | (_, d) => uptoBulk d + 1
 end
def uptoSmall : (H : Type) → List (DataW H) → Bool := fun _ ds => decide (uptoBulkAll ds ≤ 1048576)
def OpenSpec.upto (s : _root_.Go.ChangeSpec) : _root_.Go.OpenSpec := { _root_.Go.OpenSpec.ofChange s with cond := some uptoSmall }

/-- 'switchboardlaw21.IdleLast', WHERE WHAT IT READS IS OF BULK AT MOST 1048576: true; the input reads as it did. -/
def idleLastUptoRow : OpenClaim := { program := "ytepofpbpolenlaa", sum := "daef016480e246664564d7c495a0c92d4104e4b07f45061174e1b613bccace25", func := "switchboard/switchboardlaw21.IdleLast", spec := "idleLast", unfollowed := true, recurses := true, apart := false, narrowed := true }
def IdleLastUptoSaid : Prop := idleLastUptoRow.holds Try.pinned (OpenSpec.upto idleLastSpec)

/-- 'switchboardlaw21.IdleAges', WHERE WHAT IT READS IS OF BULK AT MOST 1048576: true; the input reads as it did. -/
def idleAgesUptoRow : OpenClaim := { program := "ytepofpbpolenlaa", sum := "daef016480e246664564d7c495a0c92d4104e4b07f45061174e1b613bccace25", func := "switchboard/switchboardlaw21.IdleAges", spec := "idleAges", unfollowed := true, recurses := true, apart := false, narrowed := true }
def IdleAgesUptoSaid : Prop := idleAgesUptoRow.holds Try.pinned (OpenSpec.upto idleAgesSpec)

/-- 'switchboardlaw21.IdleDrops', WHERE WHAT IT READS IS OF BULK AT MOST 1048576: true; the input reads as it did. -/
def idleDropsUptoRow : OpenClaim := { program := "ytepofpbpolenlaa", sum := "daef016480e246664564d7c495a0c92d4104e4b07f45061174e1b613bccace25", func := "switchboard/switchboardlaw21.IdleDrops", spec := "idleDrops", unfollowed := true, recurses := true, apart := false, narrowed := true }
def IdleDropsUptoSaid : Prop := idleDropsUptoRow.holds Try.pinned (OpenSpec.upto idleDropsSpec)

/-- 'switchboardlaw21.IdleSplit', WHERE WHAT IT READS IS OF BULK AT MOST 1048576: true; the input reads as it did. -/
def idleSplitUptoRow : OpenClaim := { program := "ytepofpbpolenlaa", sum := "daef016480e246664564d7c495a0c92d4104e4b07f45061174e1b613bccace25", func := "switchboard/switchboardlaw21.IdleSplit", spec := "idleSplit", unfollowed := true, recurses := true, apart := false, narrowed := true }
def IdleSplitUptoSaid : Prop := idleSplitUptoRow.holds Try.pinned (OpenSpec.upto idleSplitSpec)

/-- 'switchboardlaw21.IdleTells', WHERE WHAT IT READS IS OF BULK AT MOST 1048576: true; the input reads as it did. -/
def idleTellsUptoRow : OpenClaim := { program := "ytepofpbpolenlaa", sum := "daef016480e246664564d7c495a0c92d4104e4b07f45061174e1b613bccace25", func := "switchboard/switchboardlaw21.IdleTells", spec := "idleTells", unfollowed := true, recurses := true, apart := false, narrowed := true }
def IdleTellsUptoSaid : Prop := idleTellsUptoRow.holds Try.pinned (OpenSpec.upto idleTellsSpec)

end Rows
end Go.Proofs.Ytepofpbpolenlaa
