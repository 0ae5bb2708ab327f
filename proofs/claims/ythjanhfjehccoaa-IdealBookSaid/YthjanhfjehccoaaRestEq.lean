/-
  Whether two rows of idle sockets are the same: slices.Equal, the document's own Same. Conditions: the rows read as lists of pairs, at most 100000 of them.
-/
import Derived.Test.YthjanhfjehccoaaRest
import Derived.Laws.StructEq
namespace Go.Proofs.Ythjanhfjehccoaa
set_option linter.unusedVariables false
set_option linter.unusedSimpArgs false
open Go.RowKit

def valRe (x : Re) : Value := .agg #[.int .i64 x.1, .int .i64 x.2]
theorem eqRe (x y : Re) (w : World) : (Op.equalIn 10000 67 (valRe x) (valRe y)).run Try.prog w = .ok (decide (x = y)) w := by
  obtain ⟨a, b⟩ := x
  obtain ⟨c, d⟩ := y
  have u3 := Try.underlying3
  have hS : Try.prog.underlying 67 = some (.struct (Try.prog.fieldsOf 67)) := by kernel_rfl
  have hp : Try.prog.stoodInHeld 67 = false := by kernel_rfl
  unfold valRe
  rw [show (10000 : Nat) = 9999 + 1 from rfl, run_equalIn_agg w 9999 67 _ _ hS hp]
  simp only [Program.fieldsOf, Try.underlying67]
  go_simp
  by_cases h1 : a = c <;> by_cases h2 : b = d <;> simp [h1, h2]
end Go.Proofs.Ythjanhfjehccoaa
