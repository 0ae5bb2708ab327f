/-
  What switchboardref04.Place computes: where a number stands. Conditions: the row reads as a list of ints, of at most 100000 numbers.
-/
import Derived.Test.YthjanhfjehccoaaSlicesI
namespace Go.Proofs.Ythjanhfjehccoaa
set_option linter.unusedVariables false
set_option linter.unusedSimpArgs false
open Go.RowKit
theorem first_of_mem : ∀ {l : List Int} {x : Int}, x ∈ l → ∃ k : Nat, l[k]? = some x ∧ x ∉ l.take k ∧ l.eraseIdx k = l.erase x
  | [], _, h => absurd h (by simp)
  | y :: ys, x, h => by
    by_cases e : y = x
    · subst e
      exact ⟨0, rfl, by simp, by simp⟩
    · obtain ⟨k, h1, h2, h3⟩ := first_of_mem (l := ys) (x := x) (by
        rcases List.mem_cons.1 h with h | h
        · exact absurd h.symm e
        · exact h)
      refine ⟨k + 1, by simpa using h1, ?_, ?_⟩
      · simp only [List.take_succ_cons, List.mem_cons, not_or]
        exact ⟨fun h => e h.symm, h2⟩
      · rw [List.eraseIdx_cons_succ, h3, List.erase_cons_tail (by simpa using e)]
theorem placeOf_mem {l : List Int} {x : Int} (h : x ∈ l) : ∃ k : Nat, placeOf l x = k ∧ k < l.length ∧ l.eraseIdx k = l.erase x ∧ l[k]? = some x ∧ x ∉ l.take k := by
  obtain ⟨k, h1, h2, h3⟩ := first_of_mem h
  exact ⟨k, placeOf_hit h1 h2, (List.getElem?_eq_some_iff.1 h1).1, h3, h1, h2⟩

end Go.Proofs.Ythjanhfjehccoaa
