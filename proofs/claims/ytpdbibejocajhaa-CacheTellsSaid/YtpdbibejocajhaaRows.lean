/-
  No cell of these rows narrows 'for every input' (looked for: loops, veiled, ifaces, maps, wideKeys, modest, calm, conditions, laid).
  DERIVED. THE GIVEN ROWS OF THIS SEAT. 5 by the template 'for every input the law returns true; each argument reads behind the call as it read before'; 0 by the template 'total and deterministic' (their statements: YtpdbibejocajhaaTotals.lean).
  GIVEN WITH THE SEED: the statements are not yours to turn. If you find one false, say at which input.
  Laid BY PROGRAM, IN A SANDBOX (cutbox-rows.mjs): the forced cells as the released guide's own fill.sh prints them over the translation 86f000fd29d14ba8… (all of the seat's roots in one cut). By AI agents, Wed Nov 11 2026. No macro, syntax, notation, axiom, sorry.
-/
import Derived.Test.YtpdbibejocajhaaChecked
import GoSem.Claim
import GoSem.ClaimJoined
import GoSem.ClaimMapViews
import Derived.JoinedTies
import Derived.KernelRfl
namespace Go.Proofs.Ytpdbibejocajhaa
/- THE CELL 'sum', in the pinned program and in every row, IS THE sha256 OF THE DUMP (.gsa) THAT YtpdbibejocajhaaProg.lean LOADS. Nothing in Lean hashes anything: it is a label: what it is worth is what the hold of that sum in a sandbox is worth. -/
noncomputable def Try.pinned : Pinned := { name := "ytpdbibejocajhaa", sum := "86f000fd29d14ba82f173122f6474dac3d2cad184b2e1080a398bd8a79e80626", checked := Try.checked }
namespace Rows
def none {H : Type} : Left H := { results := [], args := [] }

/-- 'switchboardlaw11.CacheFresh': WHATEVER THE INPUT: true; the input reads as it did. -/
def cacheFreshSpec : ChangeSpec := { name := "cacheFresh", fn := fun _ => fun
  | [d1, d2, d3] => { results := [.lit (.bool true)], args := [d1, d2, d3] }
  | _ => none }
def cacheFreshRow : OpenClaim := { program := "ytpdbibejocajhaa", sum := "86f000fd29d14ba82f173122f6474dac3d2cad184b2e1080a398bd8a79e80626", func := "switchboard/switchboardlaw11.CacheFresh", spec := "cacheFresh", inPlace := ["slices.overlaps[switchboard/api.Known]"], unfollowed := true, recurses := true, apart := false }
def CacheFreshSaid : Prop := cacheFreshRow.holds Try.pinned (OpenSpec.ofChange cacheFreshSpec)

/-- ITS FALSE NEIGHBOUR: 'it returns false'. Refute it at one input. -/
def cacheFreshWrong : ChangeSpec := { name := "cacheFresh", fn := fun _ => fun
  | [d1, d2, d3] => { results := [.lit (.bool false)], args := [d1, d2, d3] }
  | _ => none }
def CacheFreshWrongFalsely : Prop := cacheFreshRow.holds Try.pinned (OpenSpec.ofChange cacheFreshWrong)

/-- 'switchboardlaw11.CacheSwaps': WHATEVER THE INPUT: true; the input reads as it did. -/
def cacheSwapsSpec : ChangeSpec := { name := "cacheSwaps", fn := fun _ => fun
  | [d1, d2, d3] => { results := [.lit (.bool true)], args := [d1, d2, d3] }
  | _ => none }
def cacheSwapsRow : OpenClaim := { program := "ytpdbibejocajhaa", sum := "86f000fd29d14ba82f173122f6474dac3d2cad184b2e1080a398bd8a79e80626", func := "switchboard/switchboardlaw11.CacheSwaps", spec := "cacheSwaps", inPlace := ["slices.overlaps[switchboard/api.Known]"], unfollowed := true, recurses := true, apart := false }
def CacheSwapsSaid : Prop := cacheSwapsRow.holds Try.pinned (OpenSpec.ofChange cacheSwapsSpec)

/-- ITS FALSE NEIGHBOUR: 'it returns false'. Refute it at one input. -/
def cacheSwapsWrong : ChangeSpec := { name := "cacheSwaps", fn := fun _ => fun
  | [d1, d2, d3] => { results := [.lit (.bool false)], args := [d1, d2, d3] }
  | _ => none }
def CacheSwapsWrongFalsely : Prop := cacheSwapsRow.holds Try.pinned (OpenSpec.ofChange cacheSwapsWrong)

/-- 'switchboardlaw11.CacheLearns': WHATEVER THE INPUT: true; the input reads as it did. -/
def cacheLearnsSpec : ChangeSpec := { name := "cacheLearns", fn := fun _ => fun
  | [d1, d2, d3, d4, d5, d6, d7] => { results := [.lit (.bool true)], args := [d1, d2, d3, d4, d5, d6, d7] }
  | _ => none }
def cacheLearnsRow : OpenClaim := { program := "ytpdbibejocajhaa", sum := "86f000fd29d14ba82f173122f6474dac3d2cad184b2e1080a398bd8a79e80626", func := "switchboard/switchboardlaw11.CacheLearns", spec := "cacheLearns", inPlace := ["slices.overlaps[switchboard/api.Known]"], unfollowed := true, recurses := true, apart := false }
def CacheLearnsSaid : Prop := cacheLearnsRow.holds Try.pinned (OpenSpec.ofChange cacheLearnsSpec)

/-- ITS FALSE NEIGHBOUR: 'it returns false'. Refute it at one input. -/
def cacheLearnsWrong : ChangeSpec := { name := "cacheLearns", fn := fun _ => fun
  | [d1, d2, d3, d4, d5, d6, d7] => { results := [.lit (.bool false)], args := [d1, d2, d3, d4, d5, d6, d7] }
  | _ => none }
def CacheLearnsWrongFalsely : Prop := cacheLearnsRow.holds Try.pinned (OpenSpec.ofChange cacheLearnsWrong)

/-- 'switchboardlaw11.CacheTells': WHATEVER THE INPUT: true; the input reads as it did. -/
def cacheTellsSpec : ChangeSpec := { name := "cacheTells", fn := fun _ => fun
  | [d1, d2, d3, d4, d5, d6, d7] => { results := [.lit (.bool true)], args := [d1, d2, d3, d4, d5, d6, d7] }
  | _ => none }
def cacheTellsRow : OpenClaim := { program := "ytpdbibejocajhaa", sum := "86f000fd29d14ba82f173122f6474dac3d2cad184b2e1080a398bd8a79e80626", func := "switchboard/switchboardlaw11.CacheTells", spec := "cacheTells", inPlace := ["slices.overlaps[switchboard/api.Known]"], unfollowed := true, recurses := true, apart := false }
def CacheTellsSaid : Prop := cacheTellsRow.holds Try.pinned (OpenSpec.ofChange cacheTellsSpec)

/-- ITS FALSE NEIGHBOUR: 'it returns false'. Refute it at one input. -/
def cacheTellsWrong : ChangeSpec := { name := "cacheTells", fn := fun _ => fun
  | [d1, d2, d3, d4, d5, d6, d7] => { results := [.lit (.bool false)], args := [d1, d2, d3, d4, d5, d6, d7] }
  | _ => none }
def CacheTellsWrongFalsely : Prop := cacheTellsRow.holds Try.pinned (OpenSpec.ofChange cacheTellsWrong)

/-- 'switchboardlaw11.CacheKeeps': WHATEVER THE INPUT: true; the input reads as it did. -/
def cacheKeepsSpec : ChangeSpec := { name := "cacheKeeps", fn := fun _ => fun
  | [d1, d2, d3, d4] => { results := [.lit (.bool true)], args := [d1, d2, d3, d4] }
  | _ => none }
def cacheKeepsRow : OpenClaim := { program := "ytpdbibejocajhaa", sum := "86f000fd29d14ba82f173122f6474dac3d2cad184b2e1080a398bd8a79e80626", func := "switchboard/switchboardlaw11.CacheKeeps", spec := "cacheKeeps", inPlace := ["slices.overlaps[switchboard/api.Known]"], unfollowed := true, recurses := true, apart := false }
def CacheKeepsSaid : Prop := cacheKeepsRow.holds Try.pinned (OpenSpec.ofChange cacheKeepsSpec)

/-- ITS FALSE NEIGHBOUR: 'it returns false'. Refute it at one input. -/
def cacheKeepsWrong : ChangeSpec := { name := "cacheKeeps", fn := fun _ => fun
  | [d1, d2, d3, d4] => { results := [.lit (.bool false)], args := [d1, d2, d3, d4] }
  | _ => none }
def CacheKeepsWrongFalsely : Prop := cacheKeepsRow.holds Try.pinned (OpenSpec.ofChange cacheKeepsWrong)

/- THE SECOND FORM. 'bulk': how many values and letters a reading holds, each counted each time it is reached (what is shared counts as often as it is met; a slice's spare places count too). A statement '..UptoSaid' is the law's where the arguments, and the package variables that the reading takes, are together of bulk at most 1048576: NARROWER than '..Said'. Prove '..Said' where nothing that the law and all that it calls make is longer than what came in: it says more and counts as full. Else prove '..UptoSaid'. A law counts once. -/
mutual
def uptoBulk {H : Type} : DataW H → Nat
  | .lit (.string bytes) => bytes.length + 1
  | .lit _ => 1
  | .nil => 1
  | .ptr d => uptoBulk d + 1
  | .slice elems spare => uptoBulkAll elems + uptoBulkAll spare + 1
  | .agg parts => uptoBulkAll parts + 1
  | .iface _ d => uptoBulk d + 1
  | .map entries => uptoBulkEntries entries + 1
  | .held _ => 1
def uptoBulkAll {H : Type} : List (DataW H) → Nat
  | [] => 0
  | d :: r => uptoBulk d + uptoBulkAll r
def uptoBulkEntries {H : Type} : List (Lit × DataW H) → Nat
  | [] => 0
  | x :: r => uptoBulkEntry x + uptoBulkEntries r
def uptoBulkEntry {H : Type} : Lit × DataW H → Nat
  | (.string bytes, d) => bytes.length + uptoBulk d + 1
  | (_, d) => uptoBulk d + 1
 end
def uptoSmall : (H : Type) → List (DataW H) → Bool := fun _ ds => decide (uptoBulkAll ds ≤ 1048576)
def OpenSpec.upto (s : _root_.Go.ChangeSpec) : _root_.Go.OpenSpec := { _root_.Go.OpenSpec.ofChange s with cond := some uptoSmall }

/-- 'switchboardlaw11.CacheFresh', WHERE WHAT IT READS IS OF BULK AT MOST 1048576: true; the input reads as it did. -/
def cacheFreshUptoRow : OpenClaim := { program := "ytpdbibejocajhaa", sum := "86f000fd29d14ba82f173122f6474dac3d2cad184b2e1080a398bd8a79e80626", func := "switchboard/switchboardlaw11.CacheFresh", spec := "cacheFresh", inPlace := ["slices.overlaps[switchboard/api.Known]"], unfollowed := true, recurses := true, apart := false, narrowed := true }
def CacheFreshUptoSaid : Prop := cacheFreshUptoRow.holds Try.pinned (OpenSpec.upto cacheFreshSpec)

/-- 'switchboardlaw11.CacheSwaps', WHERE WHAT IT READS IS OF BULK AT MOST 1048576: true; the input reads as it did. -/
def cacheSwapsUptoRow : OpenClaim := { program := "ytpdbibejocajhaa", sum := "86f000fd29d14ba82f173122f6474dac3d2cad184b2e1080a398bd8a79e80626", func := "switchboard/switchboardlaw11.CacheSwaps", spec := "cacheSwaps", inPlace := ["slices.overlaps[switchboard/api.Known]"], unfollowed := true, recurses := true, apart := false, narrowed := true }
def CacheSwapsUptoSaid : Prop := cacheSwapsUptoRow.holds Try.pinned (OpenSpec.upto cacheSwapsSpec)

/-- 'switchboardlaw11.CacheLearns', WHERE WHAT IT READS IS OF BULK AT MOST 1048576: true; the input reads as it did. -/
def cacheLearnsUptoRow : OpenClaim := { program := "ytpdbibejocajhaa", sum := "86f000fd29d14ba82f173122f6474dac3d2cad184b2e1080a398bd8a79e80626", func := "switchboard/switchboardlaw11.CacheLearns", spec := "cacheLearns", inPlace := ["slices.overlaps[switchboard/api.Known]"], unfollowed := true, recurses := true, apart := false, narrowed := true }
def CacheLearnsUptoSaid : Prop := cacheLearnsUptoRow.holds Try.pinned (OpenSpec.upto cacheLearnsSpec)

/-- 'switchboardlaw11.CacheTells', WHERE WHAT IT READS IS OF BULK AT MOST 1048576: true; the input reads as it did. -/
def cacheTellsUptoRow : OpenClaim := { program := "ytpdbibejocajhaa", sum := "86f000fd29d14ba82f173122f6474dac3d2cad184b2e1080a398bd8a79e80626", func := "switchboard/switchboardlaw11.CacheTells", spec := "cacheTells", inPlace := ["slices.overlaps[switchboard/api.Known]"], unfollowed := true, recurses := true, apart := false, narrowed := true }
def CacheTellsUptoSaid : Prop := cacheTellsUptoRow.holds Try.pinned (OpenSpec.upto cacheTellsSpec)

/-- 'switchboardlaw11.CacheKeeps', WHERE WHAT IT READS IS OF BULK AT MOST 1048576: true; the input reads as it did. -/
def cacheKeepsUptoRow : OpenClaim := { program := "ytpdbibejocajhaa", sum := "86f000fd29d14ba82f173122f6474dac3d2cad184b2e1080a398bd8a79e80626", func := "switchboard/switchboardlaw11.CacheKeeps", spec := "cacheKeeps", inPlace := ["slices.overlaps[switchboard/api.Known]"], unfollowed := true, recurses := true, apart := false, narrowed := true }
def CacheKeepsUptoSaid : Prop := cacheKeepsUptoRow.holds Try.pinned (OpenSpec.upto cacheKeepsSpec)

end Rows
end Go.Proofs.Ytpdbibejocajhaa
