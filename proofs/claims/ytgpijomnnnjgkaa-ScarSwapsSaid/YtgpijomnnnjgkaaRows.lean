/-
  No cell of these rows narrows 'for every input' (looked for: loops, veiled, ifaces, maps, wideKeys, modest, calm, conditions, laid).
  DERIVED. THE GIVEN ROWS OF THIS SEAT. 5 by the template 'for every input the law returns true; each argument reads behind the call as it read before'; 0 by the template 'total and deterministic' (their statements: YtgpijomnnnjgkaaTotals.lean).
  GIVEN WITH THE SEED: the statements are not yours to turn. If you find one false, say at which input.
  Laid BY PROGRAM, IN A SANDBOX (cutbox-rows.mjs): the forced cells as the released guide's own fill.sh prints them over the translation b8158adbe3e3c11f… (all of the seat's roots in one cut). By AI agents, Wed Nov 11 2026. No macro, syntax, notation, axiom, sorry.
-/
import Derived.Test.YtgpijomnnnjgkaaChecked
import GoSem.Claim
import GoSem.ClaimJoined
import GoSem.ClaimMapViews
import Derived.JoinedTies
import Derived.KernelRfl
namespace Go.Proofs.Ytgpijomnnnjgkaa
/- THE CELL 'sum', in the pinned program and in every row, IS THE sha256 OF THE DUMP (.gsa) THAT YtgpijomnnnjgkaaProg.lean LOADS. Nothing in Lean hashes anything: it is a label: what it is worth is what the hold of that sum in a sandbox is worth. -/
noncomputable def Try.pinned : Pinned := { name := "ytgpijomnnnjgkaa", sum := "b8158adbe3e3c11f4ec45ea1a7a6b1d6d9bf3a49f97a7912e24848c3c1691d67", checked := Try.checked }
namespace Rows
def none {H : Type} : Left H := { results := [], args := [] }

/-- 'switchboardlaw12.ScarOnce': WHATEVER THE INPUT: true; the input reads as it did. -/
def scarOnceSpec : ChangeSpec := { name := "scarOnce", fn := fun _ => fun
  | [d] => { results := [.lit (.bool true)], args := [d] }
  | _ => none }
def scarOnceRow : OpenClaim := { program := "ytgpijomnnnjgkaa", sum := "b8158adbe3e3c11f4ec45ea1a7a6b1d6d9bf3a49f97a7912e24848c3c1691d67", func := "switchboard/switchboardlaw12.ScarOnce", spec := "scarOnce", unfollowed := true, recurses := true, apart := false }
def ScarOnceSaid : Prop := scarOnceRow.holds Try.pinned (OpenSpec.ofChange scarOnceSpec)

/-- ITS FALSE NEIGHBOUR: 'it returns false'. Refute it at one input. -/
def scarOnceWrong : ChangeSpec := { name := "scarOnce", fn := fun _ => fun
  | [d] => { results := [.lit (.bool false)], args := [d] }
  | _ => none }
def ScarOnceWrongFalsely : Prop := scarOnceRow.holds Try.pinned (OpenSpec.ofChange scarOnceWrong)

/-- 'switchboardlaw12.ScarHeals': WHATEVER THE INPUT: true; the input reads as it did. -/
def scarHealsSpec : ChangeSpec := { name := "scarHeals", fn := fun _ => fun
  | [d1, d2, d3, d4] => { results := [.lit (.bool true)], args := [d1, d2, d3, d4] }
  | _ => none }
def scarHealsRow : OpenClaim := { program := "ytgpijomnnnjgkaa", sum := "b8158adbe3e3c11f4ec45ea1a7a6b1d6d9bf3a49f97a7912e24848c3c1691d67", func := "switchboard/switchboardlaw12.ScarHeals", spec := "scarHeals", unfollowed := true, recurses := true, apart := false }
def ScarHealsSaid : Prop := scarHealsRow.holds Try.pinned (OpenSpec.ofChange scarHealsSpec)

/-- ITS FALSE NEIGHBOUR: 'it returns false'. Refute it at one input. -/
def scarHealsWrong : ChangeSpec := { name := "scarHeals", fn := fun _ => fun
  | [d1, d2, d3, d4] => { results := [.lit (.bool false)], args := [d1, d2, d3, d4] }
  | _ => none }
def ScarHealsWrongFalsely : Prop := scarHealsRow.holds Try.pinned (OpenSpec.ofChange scarHealsWrong)

/-- 'switchboardlaw12.ScarFresh': WHATEVER THE INPUT: true; the input reads as it did. -/
def scarFreshSpec : ChangeSpec := { name := "scarFresh", fn := fun _ => fun
  | [d1, d2, d3, d4] => { results := [.lit (.bool true)], args := [d1, d2, d3, d4] }
  | _ => none }
def scarFreshRow : OpenClaim := { program := "ytgpijomnnnjgkaa", sum := "b8158adbe3e3c11f4ec45ea1a7a6b1d6d9bf3a49f97a7912e24848c3c1691d67", func := "switchboard/switchboardlaw12.ScarFresh", spec := "scarFresh", unfollowed := true, recurses := true, apart := false }
def ScarFreshSaid : Prop := scarFreshRow.holds Try.pinned (OpenSpec.ofChange scarFreshSpec)

/-- ITS FALSE NEIGHBOUR: 'it returns false'. Refute it at one input. -/
def scarFreshWrong : ChangeSpec := { name := "scarFresh", fn := fun _ => fun
  | [d1, d2, d3, d4] => { results := [.lit (.bool false)], args := [d1, d2, d3, d4] }
  | _ => none }
def ScarFreshWrongFalsely : Prop := scarFreshRow.holds Try.pinned (OpenSpec.ofChange scarFreshWrong)

/-- 'switchboardlaw12.ScarTells': WHATEVER THE INPUT: true; the input reads as it did. -/
def scarTellsSpec : ChangeSpec := { name := "scarTells", fn := fun _ => fun
  | [d1, d2, d3, d4, d5] => { results := [.lit (.bool true)], args := [d1, d2, d3, d4, d5] }
  | _ => none }
def scarTellsRow : OpenClaim := { program := "ytgpijomnnnjgkaa", sum := "b8158adbe3e3c11f4ec45ea1a7a6b1d6d9bf3a49f97a7912e24848c3c1691d67", func := "switchboard/switchboardlaw12.ScarTells", spec := "scarTells", unfollowed := true, recurses := true, apart := false }
def ScarTellsSaid : Prop := scarTellsRow.holds Try.pinned (OpenSpec.ofChange scarTellsSpec)

/-- ITS FALSE NEIGHBOUR: 'it returns false'. Refute it at one input. -/
def scarTellsWrong : ChangeSpec := { name := "scarTells", fn := fun _ => fun
  | [d1, d2, d3, d4, d5] => { results := [.lit (.bool false)], args := [d1, d2, d3, d4, d5] }
  | _ => none }
def ScarTellsWrongFalsely : Prop := scarTellsRow.holds Try.pinned (OpenSpec.ofChange scarTellsWrong)

/-- 'switchboardlaw12.ScarSwaps': WHATEVER THE INPUT: true; the input reads as it did. -/
def scarSwapsSpec : ChangeSpec := { name := "scarSwaps", fn := fun _ => fun
  | [d1, d2, d3, d4] => { results := [.lit (.bool true)], args := [d1, d2, d3, d4] }
  | _ => none }
def scarSwapsRow : OpenClaim := { program := "ytgpijomnnnjgkaa", sum := "b8158adbe3e3c11f4ec45ea1a7a6b1d6d9bf3a49f97a7912e24848c3c1691d67", func := "switchboard/switchboardlaw12.ScarSwaps", spec := "scarSwaps", unfollowed := true, recurses := true, apart := false }
def ScarSwapsSaid : Prop := scarSwapsRow.holds Try.pinned (OpenSpec.ofChange scarSwapsSpec)

/-- ITS FALSE NEIGHBOUR: 'it returns false'. Refute it at one input. -/
def scarSwapsWrong : ChangeSpec := { name := "scarSwaps", fn := fun _ => fun
  | [d1, d2, d3, d4] => { results := [.lit (.bool false)], args := [d1, d2, d3, d4] }
  | _ => none }
def ScarSwapsWrongFalsely : Prop := scarSwapsRow.holds Try.pinned (OpenSpec.ofChange scarSwapsWrong)

/- THE SECOND FORM. 'bulk': how many values and letters a reading holds, each counted each time it is reached (what is shared counts as often as it is met; a slice's spare places count too). A statement '..UptoSaid' is the law's where the arguments, and the package variables that the reading takes, are together of bulk at most 1048576: NARROWER than '..Said'. Prove '..Said' where nothing that the law and all that it calls make is longer than what came in: it says more and counts as full. Else prove '..UptoSaid'. A law counts once. -/
mutual
def uptoBulk {H : Type} : DataW H → Nat
  | .lit (.string bytes) => bytes.length + 1
  | .lit _ => 1
  | .nil => 1
  | .ptr d => uptoBulk d + 1
  | .slice elems spare => uptoBulkAll elems + uptoBulkAll spare + 1
  | .agg parts => uptoBulkAll parts + 1
  | .iface _ d => uptoBulk d + 1
  | .map entries => uptoBulkEntries entries + 1
  | .held _ => 1
def uptoBulkAll {H : Type} : List (DataW H) → Nat
  | [] => 0
  | d :: r => uptoBulk d + uptoBulkAll r
def uptoBulkEntries {H : Type} : List (Lit × DataW H) → Nat
  | [] => 0
  | x :: r => uptoBulkEntry x + uptoBulkEntries r
def uptoBulkEntry {H : Type} : Lit × DataW H → Nat
  | (.string bytes, d) => bytes.length + uptoBulk d + 1
  | (_, d) => uptoBulk d + 1
 end
def uptoSmall : (H : Type) → List (DataW H) → Bool := fun _ ds => decide (uptoBulkAll ds ≤ 1048576)
def OpenSpec.upto (s : _root_.Go.ChangeSpec) : _root_.Go.OpenSpec := { _root_.Go.OpenSpec.ofChange s with cond := some uptoSmall }

/-- 'switchboardlaw12.ScarOnce', WHERE WHAT IT READS IS OF BULK AT MOST 1048576: true; the input reads as it did. -/
def scarOnceUptoRow : OpenClaim := { program := "ytgpijomnnnjgkaa", sum := "b8158adbe3e3c11f4ec45ea1a7a6b1d6d9bf3a49f97a7912e24848c3c1691d67", func := "switchboard/switchboardlaw12.ScarOnce", spec := "scarOnce", unfollowed := true, recurses := true, apart := false, narrowed := true }
def ScarOnceUptoSaid : Prop := scarOnceUptoRow.holds Try.pinned (OpenSpec.upto scarOnceSpec)

/-- 'switchboardlaw12.ScarHeals', WHERE WHAT IT READS IS OF BULK AT MOST 1048576: true; the input reads as it did. -/
def scarHealsUptoRow : OpenClaim := { program := "ytgpijomnnnjgkaa", sum := "b8158adbe3e3c11f4ec45ea1a7a6b1d6d9bf3a49f97a7912e24848c3c1691d67", func := "switchboard/switchboardlaw12.ScarHeals", spec := "scarHeals", unfollowed := true, recurses := true, apart := false, narrowed := true }
def ScarHealsUptoSaid : Prop := scarHealsUptoRow.holds Try.pinned (OpenSpec.upto scarHealsSpec)

/-- 'switchboardlaw12.ScarFresh', WHERE WHAT IT READS IS OF BULK AT MOST 1048576: true; the input reads as it did. -/
def scarFreshUptoRow : OpenClaim := { program := "ytgpijomnnnjgkaa", sum := "b8158adbe3e3c11f4ec45ea1a7a6b1d6d9bf3a49f97a7912e24848c3c1691d67", func := "switchboard/switchboardlaw12.ScarFresh", spec := "scarFresh", unfollowed := true, recurses := true, apart := false, narrowed := true }
def ScarFreshUptoSaid : Prop := scarFreshUptoRow.holds Try.pinned (OpenSpec.upto scarFreshSpec)

/-- 'switchboardlaw12.ScarTells', WHERE WHAT IT READS IS OF BULK AT MOST 1048576: true; the input reads as it did. -/
def scarTellsUptoRow : OpenClaim := { program := "ytgpijomnnnjgkaa", sum := "b8158adbe3e3c11f4ec45ea1a7a6b1d6d9bf3a49f97a7912e24848c3c1691d67", func := "switchboard/switchboardlaw12.ScarTells", spec := "scarTells", unfollowed := true, recurses := true, apart := false, narrowed := true }
def ScarTellsUptoSaid : Prop := scarTellsUptoRow.holds Try.pinned (OpenSpec.upto scarTellsSpec)

/-- 'switchboardlaw12.ScarSwaps', WHERE WHAT IT READS IS OF BULK AT MOST 1048576: true; the input reads as it did. -/
def scarSwapsUptoRow : OpenClaim := { program := "ytgpijomnnnjgkaa", sum := "b8158adbe3e3c11f4ec45ea1a7a6b1d6d9bf3a49f97a7912e24848c3c1691d67", func := "switchboard/switchboardlaw12.ScarSwaps", spec := "scarSwaps", unfollowed := true, recurses := true, apart := false, narrowed := true }
def ScarSwapsUptoSaid : Prop := scarSwapsUptoRow.holds Try.pinned (OpenSpec.upto scarSwapsSpec)

end Rows
end Go.Proofs.Ytgpijomnnnjgkaa
