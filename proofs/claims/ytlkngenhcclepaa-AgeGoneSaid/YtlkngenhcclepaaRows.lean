/-
  No cell of these rows narrows 'for every input' (looked for: loops, veiled, ifaces, maps, wideKeys, modest, calm, conditions, laid).
  DERIVED. THE GIVEN ROWS OF THIS SEAT. 5 by the template 'for every input the law returns true; each argument reads behind the call as it read before'; 0 by the template 'total and deterministic' (their statements: YtlkngenhcclepaaTotals.lean).
  GIVEN WITH THE SEED: the statements are not yours to turn. If you find one false, say at which input.
  Laid BY PROGRAM, IN A SANDBOX (cutbox-rows.mjs): the forced cells as the released guide's own fill.sh prints them over the translation 9ee23d0296304120… (all of the seat's roots in one cut). By AI agents, Wed Nov 11 2026. No macro, syntax, notation, axiom, sorry.
-/
import Derived.Test.YtlkngenhcclepaaChecked
import GoSem.Claim
import GoSem.ClaimJoined
import GoSem.ClaimMapViews
import Derived.JoinedTies
import Derived.KernelRfl
namespace Go.Proofs.Ytlkngenhcclepaa
/- THE CELL 'sum', in the pinned program and in every row, IS THE sha256 OF THE DUMP (.gsa) THAT YtlkngenhcclepaaProg.lean LOADS. Nothing in Lean hashes anything: it is a label: what it is worth is what the hold of that sum in a sandbox is worth. -/
noncomputable def Try.pinned : Pinned := { name := "ytlkngenhcclepaa", sum := "9ee23d02963041209fe806f484b4a7279bf92da0adb5a035863ecd0bfa22c0e2", checked := Try.checked }
namespace Rows
def none {H : Type} : Left H := { results := [], args := [] }

/-- 'switchboardlaw03.AgeTells': WHATEVER THE INPUT: true; the input reads as it did. -/
def ageTellsSpec : ChangeSpec := { name := "ageTells", fn := fun _ => fun
  | [d1, d2, d3, d4] => { results := [.lit (.bool true)], args := [d1, d2, d3, d4] }
  | _ => none }
def ageTellsRow : OpenClaim := { program := "ytlkngenhcclepaa", sum := "9ee23d02963041209fe806f484b4a7279bf92da0adb5a035863ecd0bfa22c0e2", func := "switchboard/switchboardlaw03.AgeTells", spec := "ageTells", apart := false }
def AgeTellsSaid : Prop := ageTellsRow.holds Try.pinned (OpenSpec.ofChange ageTellsSpec)

/-- ITS FALSE NEIGHBOUR: 'it returns false'. Refute it at one input. -/
def ageTellsWrong : ChangeSpec := { name := "ageTells", fn := fun _ => fun
  | [d1, d2, d3, d4] => { results := [.lit (.bool false)], args := [d1, d2, d3, d4] }
  | _ => none }
def AgeTellsWrongFalsely : Prop := ageTellsRow.holds Try.pinned (OpenSpec.ofChange ageTellsWrong)

/-- 'switchboardlaw03.AgeStays': WHATEVER THE INPUT: true; the input reads as it did. -/
def ageStaysSpec : ChangeSpec := { name := "ageStays", fn := fun _ => fun
  | [d1, d2, d3, d4] => { results := [.lit (.bool true)], args := [d1, d2, d3, d4] }
  | _ => none }
def ageStaysRow : OpenClaim := { program := "ytlkngenhcclepaa", sum := "9ee23d02963041209fe806f484b4a7279bf92da0adb5a035863ecd0bfa22c0e2", func := "switchboard/switchboardlaw03.AgeStays", spec := "ageStays", apart := false }
def AgeStaysSaid : Prop := ageStaysRow.holds Try.pinned (OpenSpec.ofChange ageStaysSpec)

/-- ITS FALSE NEIGHBOUR: 'it returns false'. Refute it at one input. -/
def ageStaysWrong : ChangeSpec := { name := "ageStays", fn := fun _ => fun
  | [d1, d2, d3, d4] => { results := [.lit (.bool false)], args := [d1, d2, d3, d4] }
  | _ => none }
def AgeStaysWrongFalsely : Prop := ageStaysRow.holds Try.pinned (OpenSpec.ofChange ageStaysWrong)

/-- 'switchboardlaw03.AgeSums': WHATEVER THE INPUT: true; the input reads as it did. -/
def ageSumsSpec : ChangeSpec := { name := "ageSums", fn := fun _ => fun
  | [d1, d2, d3] => { results := [.lit (.bool true)], args := [d1, d2, d3] }
  | _ => none }
def ageSumsRow : OpenClaim := { program := "ytlkngenhcclepaa", sum := "9ee23d02963041209fe806f484b4a7279bf92da0adb5a035863ecd0bfa22c0e2", func := "switchboard/switchboardlaw03.AgeSums", spec := "ageSums", apart := false }
def AgeSumsSaid : Prop := ageSumsRow.holds Try.pinned (OpenSpec.ofChange ageSumsSpec)

/-- ITS FALSE NEIGHBOUR: 'it returns false'. Refute it at one input. -/
def ageSumsWrong : ChangeSpec := { name := "ageSums", fn := fun _ => fun
  | [d1, d2, d3] => { results := [.lit (.bool false)], args := [d1, d2, d3] }
  | _ => none }
def AgeSumsWrongFalsely : Prop := ageSumsRow.holds Try.pinned (OpenSpec.ofChange ageSumsWrong)

/-- 'switchboardlaw03.AgeFirst': WHATEVER THE INPUT: true; the input reads as it did. -/
def ageFirstSpec : ChangeSpec := { name := "ageFirst", fn := fun _ => fun
  | [d] => { results := [.lit (.bool true)], args := [d] }
  | _ => none }
def ageFirstRow : OpenClaim := { program := "ytlkngenhcclepaa", sum := "9ee23d02963041209fe806f484b4a7279bf92da0adb5a035863ecd0bfa22c0e2", func := "switchboard/switchboardlaw03.AgeFirst", spec := "ageFirst", apart := false }
def AgeFirstSaid : Prop := ageFirstRow.holds Try.pinned (OpenSpec.ofChange ageFirstSpec)

/-- ITS FALSE NEIGHBOUR: 'it returns false'. Refute it at one input. -/
def ageFirstWrong : ChangeSpec := { name := "ageFirst", fn := fun _ => fun
  | [d] => { results := [.lit (.bool false)], args := [d] }
  | _ => none }
def AgeFirstWrongFalsely : Prop := ageFirstRow.holds Try.pinned (OpenSpec.ofChange ageFirstWrong)

/-- 'switchboardlaw03.AgeGone': WHATEVER THE INPUT: true; the input reads as it did. -/
def ageGoneSpec : ChangeSpec := { name := "ageGone", fn := fun _ => fun
  | [d1, d2, d3] => { results := [.lit (.bool true)], args := [d1, d2, d3] }
  | _ => none }
def ageGoneRow : OpenClaim := { program := "ytlkngenhcclepaa", sum := "9ee23d02963041209fe806f484b4a7279bf92da0adb5a035863ecd0bfa22c0e2", func := "switchboard/switchboardlaw03.AgeGone", spec := "ageGone", apart := false }
def AgeGoneSaid : Prop := ageGoneRow.holds Try.pinned (OpenSpec.ofChange ageGoneSpec)

/-- ITS FALSE NEIGHBOUR: 'it returns false'. Refute it at one input. -/
def ageGoneWrong : ChangeSpec := { name := "ageGone", fn := fun _ => fun
  | [d1, d2, d3] => { results := [.lit (.bool false)], args := [d1, d2, d3] }
  | _ => none }
def AgeGoneWrongFalsely : Prop := ageGoneRow.holds Try.pinned (OpenSpec.ofChange ageGoneWrong)

/- THE SECOND FORM. 'bulk': how many values and letters a reading holds, each counted each time it is reached (what is shared counts as often as it is met; a slice's spare places count too). A statement '..UptoSaid' is the law's where the arguments, and the package variables that the reading takes, are together of bulk at most 1048576: NARROWER than '..Said'. Prove '..Said' where nothing that the law and all that it calls make is longer than what came in: it says more and counts as full. Else prove '..UptoSaid'. A law counts once. -/
mutual
def uptoBulk {H : Type} : DataW H → Nat
  | .lit (.string bytes) => bytes.length + 1
  | .lit _ => 1
  | .nil => 1
  | .ptr d => uptoBulk d + 1
  | .slice elems spare => uptoBulkAll elems + uptoBulkAll spare + 1
  | .agg parts => uptoBulkAll parts + 1
  | .iface _ d => uptoBulk d + 1
  | .map entries => uptoBulkEntries entries + 1
  | .held _ => 1
def uptoBulkAll {H : Type} : List (DataW H) → Nat
  | [] => 0
  | d :: r => uptoBulk d + uptoBulkAll r
def uptoBulkEntries {H : Type} : List (Lit × DataW H) → Nat
  | [] => 0
  | x :: r => uptoBulkEntry x + uptoBulkEntries r
def uptoBulkEntry {H : Type} : Lit × DataW H → Nat
  | (.string bytes, d) => bytes.length + uptoBulk d + 1
  | (_, d) => uptoBulk d + 1
 end
def uptoSmall : (H : Type) → List (DataW H) → Bool := fun _ ds => decide (uptoBulkAll ds ≤ 1048576)
def OpenSpec.upto (s : _root_.Go.ChangeSpec) : _root_.Go.OpenSpec := { _root_.Go.OpenSpec.ofChange s with cond := some uptoSmall }

/-- 'switchboardlaw03.AgeTells', WHERE WHAT IT READS IS OF BULK AT MOST 1048576: true; the input reads as it did. -/
def ageTellsUptoRow : OpenClaim := { program := "ytlkngenhcclepaa", sum := "9ee23d02963041209fe806f484b4a7279bf92da0adb5a035863ecd0bfa22c0e2", func := "switchboard/switchboardlaw03.AgeTells", spec := "ageTells", apart := false, narrowed := true }
def AgeTellsUptoSaid : Prop := ageTellsUptoRow.holds Try.pinned (OpenSpec.upto ageTellsSpec)

/-- 'switchboardlaw03.AgeStays', WHERE WHAT IT READS IS OF BULK AT MOST 1048576: true; the input reads as it did. -/
def ageStaysUptoRow : OpenClaim := { program := "ytlkngenhcclepaa", sum := "9ee23d02963041209fe806f484b4a7279bf92da0adb5a035863ecd0bfa22c0e2", func := "switchboard/switchboardlaw03.AgeStays", spec := "ageStays", apart := false, narrowed := true }
def AgeStaysUptoSaid : Prop := ageStaysUptoRow.holds Try.pinned (OpenSpec.upto ageStaysSpec)

/-- 'switchboardlaw03.AgeSums', WHERE WHAT IT READS IS OF BULK AT MOST 1048576: true; the input reads as it did. -/
def ageSumsUptoRow : OpenClaim := { program := "ytlkngenhcclepaa", sum := "9ee23d02963041209fe806f484b4a7279bf92da0adb5a035863ecd0bfa22c0e2", func := "switchboard/switchboardlaw03.AgeSums", spec := "ageSums", apart := false, narrowed := true }
def AgeSumsUptoSaid : Prop := ageSumsUptoRow.holds Try.pinned (OpenSpec.upto ageSumsSpec)

/-- 'switchboardlaw03.AgeFirst', WHERE WHAT IT READS IS OF BULK AT MOST 1048576: true; the input reads as it did. -/
def ageFirstUptoRow : OpenClaim := { program := "ytlkngenhcclepaa", sum := "9ee23d02963041209fe806f484b4a7279bf92da0adb5a035863ecd0bfa22c0e2", func := "switchboard/switchboardlaw03.AgeFirst", spec := "ageFirst", apart := false, narrowed := true }
def AgeFirstUptoSaid : Prop := ageFirstUptoRow.holds Try.pinned (OpenSpec.upto ageFirstSpec)

/-- 'switchboardlaw03.AgeGone', WHERE WHAT IT READS IS OF BULK AT MOST 1048576: true; the input reads as it did. -/
def ageGoneUptoRow : OpenClaim := { program := "ytlkngenhcclepaa", sum := "9ee23d02963041209fe806f484b4a7279bf92da0adb5a035863ecd0bfa22c0e2", func := "switchboard/switchboardlaw03.AgeGone", spec := "ageGone", apart := false, narrowed := true }
def AgeGoneUptoSaid : Prop := ageGoneUptoRow.holds Try.pinned (OpenSpec.upto ageGoneSpec)

end Rows
end Go.Proofs.Ytlkngenhcclepaa
