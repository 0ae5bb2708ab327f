/-
  The number of a goroutine's duct: what duct.Of and the document's Of compute. Conditions: which duct is from 0 to 4; the goroutine's number is at most 2^40.
-/
import Derived.Test.YtfahmfaakjnpcaaRows
import Derived.Test.YtfahmfaakjnpcaaBase
namespace Go.Proofs.Ytfahmfaakjnpcaa
set_option linter.unusedVariables false
set_option linter.unusedSimpArgs false
open Go.RowKit

/-- The number of a duct. -/
def ofD (p q : Int) : Int := if p < 0 then -1 else wrap64 (wrap64 (p * 5) + q)
theorem ofD_of {p q : Int} (h0 : 0 ≤ p) (h1 : p ≤ 1099511627776) (h2 : 0 ≤ q) (h3 : q < 5) : ofD p q = p * 5 + q := by
  unfold ofD
  rw [if_neg (by omega)]
  have e1 : wrap64 (p * 5) = p * 5 := by unfold wrap64; omega
  rw [e1]
  unfold wrap64
  omega
theorem ofD_neg {p q : Int} (h0 : p < 0) : ofD p q = -1 := by unfold ofD; rw [if_pos h0]
theorem DOf_any (p q : Int) (w : World) (hq : 0 ≤ q) (hq2 : q < 5) : Calls Try.prog 34 #[.int .i64 p, .int .i64 q] w fun e w' => e = .returned (.int .i64 (ofD p q)) ∧ w = w' := by
  have d2 : decide (q < 0) = false := by simp; omega
  have d3 : decide (5 ≤ q) = false := by simp; omega
  by_cases hp : p < 0
  · have d1 : decide (p < 0) = true := by simpa using hp
    have HR : Hid (ofD p q = -1) := by show _ = _; unfold ofD; rw [if_pos hp]
    clear hp
    go_enter Try.func34, Try.ntmps34
    go_wp2
    go_ret
    exact ⟨ret_int HR.out.symm, rfl⟩
  · have d1 : decide (p < 0) = false := by simpa using hp
    have HR : Hid (ofD p q = wrap64 (wrap64 (p * 5) + q)) := by show _ = _; unfold ofD; rw [if_neg hp]
    clear hp hq hq2
    go_enter Try.func34, Try.ntmps34
    go_wp2
    go_ret
    exact ⟨ret_int (by rw [HR.out]), rfl⟩
theorem rOf5_any (p q : Int) (w : World) (hq : 0 ≤ q) (hq2 : q < 5) (hp1 : p ≤ 1099511627776) : Calls Try.prog 10 #[.int .i64 p, .int .i64 q] w fun e w' => e = .returned (.int .i64 (ofD p q)) ∧ w = w' := by
  have d2 : decide (q < 0) = false := by simp; omega
  have d3 : decide (5 ≤ q) = false := by simp; omega
  by_cases hp : p < 0
  · have d1 : decide (p < 0) = true := by simpa using hp
    have HR : Hid (ofD p q = -1) := ofD_neg hp
    clear hp
    go_enter Try.func10, Try.ntmps10
    go_wp2
    go_ret
    exact ⟨ret_int HR.out.symm, rfl⟩
  · have d1 : decide (p < 0) = false := by simpa using hp
    have HR : Hid (ofD p q = p * 5 + q) := ofD_of (by omega) hp1 hq hq2
    have hp0 : 0 ≤ p := by omega
    clear hp
    go_enter Try.func10, Try.ntmps10
    go_wp2
    go_ret
    exact ⟨ret_int (by rw [HR.out]; omega), rfl⟩
end Go.Proofs.Ytfahmfaakjnpcaa
