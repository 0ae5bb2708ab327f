/-
  What the first of ticks is: it is one of them, at or ahead of all. Conditions: none.
-/
import Derived.Test.YtfahmfaakjnpcaaAge
namespace Go.Proofs.Ytfahmfaakjnpcaa
set_option linter.unusedVariables false
set_option linter.unusedSimpArgs false
open Go.RowKit

def FirstSpec (l : List Int) (k : Nat) (s : Int × Int) : Prop :=
  ∃ (p : Nat) (x : Int), p < k ∧ l[p]? = some x ∧ s = ((p : Int), clamp x) ∧ ∀ (i : Nat) (y : Int), i < k → l[i]? = some y → clamp x ≤ clamp y ∧ (i < p → clamp x ≠ clamp y)

theorem firstOf_spec (l : List Int) : ∀ k, k < l.length → FirstSpec l (k + 1) (firstOf (l.take (k + 1))) := by
  intro k
  induction k with
  | zero =>
    intro h
    obtain ⟨x, hx⟩ : ∃ x, l[0]? = some x := ⟨l[0], List.getElem?_eq_getElem h⟩
    refine ⟨0, x, by omega, hx, ?_, ?_⟩
    · rw [firstOf_take h hx]
      simp [firstOf, firstRun, firstStep]
    · intro i y hi hy
      obtain rfl : i = 0 := by omega
      rw [hx] at hy
      injection hy with hy
      subst hy
      exact ⟨by omega, fun h => absurd h (by omega)⟩
  | succ k ih =>
    intro h
    obtain ⟨p, x, hp, hx, hs, hall⟩ := ih (by omega)
    obtain ⟨y, hy⟩ : ∃ y, l[k + 1]? = some y := ⟨l[k + 1], List.getElem?_eq_getElem h⟩
    rw [firstOf_take h hy, hs]
    unfold firstStep
    by_cases hlt : clamp y < clamp x
    · rw [if_pos (.inr hlt)]
      refine ⟨k + 1, y, by omega, hy, rfl, ?_⟩
      intro i z hi hz
      rcases (by omega : i = k + 1 ∨ i < k + 1) with rfl | hi'
      · rw [hy] at hz
        injection hz with hz
        subst hz
        exact ⟨by omega, fun h => absurd h (by omega)⟩
      · have := hall i z hi' hz
        exact ⟨by omega, fun _ => by omega⟩
    · rw [if_neg (by simp; omega)]
      refine ⟨p, x, by omega, hx, rfl, ?_⟩
      intro i z hi hz
      rcases (by omega : i = k + 1 ∨ i < k + 1) with rfl | hi'
      · rw [hy] at hz
        injection hz with hz
        subst hz
        exact ⟨by omega, fun h => absurd h (by omega)⟩
      · exact hall i z hi' hz

theorem firstOf_least (L : List Int) (h : L ≠ []) : ∃ z ∈ L, (firstOf L).2 = clamp z ∧ ∀ y ∈ L, (firstOf L).2 ≤ clamp y := by
  have hl : 0 < L.length := List.length_pos_iff.2 h
  obtain ⟨p, x, hp, hx, hs, hall⟩ := firstOf_spec L (L.length - 1) (by omega)
  rw [List.take_of_length_le (by omega)] at hs
  refine ⟨x, List.mem_of_getElem? hx, by rw [hs], fun y hy => ?_⟩
  obtain ⟨i, hi⟩ := List.getElem?_of_mem hy
  rw [hs]
  exact (hall i y (by have := (List.getElem?_eq_some_iff.1 hi).1; omega) hi).1
end Go.Proofs.Ytfahmfaakjnpcaa
