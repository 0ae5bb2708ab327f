/-
  The walks of the statements AgeSums, AgeFirst and AgeGone: each returns true and writes nothing that was there. Conditions: none beyond the reading of a slice of ints.
-/
import Derived.Test.YtlkngenhcclepaaAgeLaws
namespace Go.Proofs.Ytlkngenhcclepaa
open Go.RowKit

def FirstSpec (l : List Int) (k : Nat) (s : Int × Int) : Prop :=
  ∃ (p : Nat) (x : Int), p < k ∧ l[p]? = some x ∧ s = ((p : Int), clamp x) ∧ ∀ (i : Nat) (y : Int), i < k → l[i]? = some y → clamp x ≤ clamp y ∧ (i < p → clamp x ≠ clamp y)

theorem firstOf_spec (l : List Int) : ∀ k, k < l.length → FirstSpec l (k + 1) (firstOf (l.take (k + 1))) := by
  intro k
  induction k with
  | zero =>
    intro h
    obtain ⟨x, hx⟩ : ∃ x, l[0]? = some x := ⟨l[0], List.getElem?_eq_getElem h⟩
    refine ⟨0, x, by omega, hx, ?_, ?_⟩
    · rw [firstOf_take h hx]
      simp [firstOf, firstRun, firstStep]
    · intro i y hi hy
      obtain rfl : i = 0 := by omega
      rw [hx] at hy
      injection hy with hy
      subst hy
      exact ⟨by omega, fun h => absurd h (by omega)⟩
  | succ k ih =>
    intro h
    obtain ⟨p, x, hp, hx, hs, hall⟩ := ih (by omega)
    obtain ⟨y, hy⟩ : ∃ y, l[k + 1]? = some y := ⟨l[k + 1], List.getElem?_eq_getElem h⟩
    rw [firstOf_take h hy, hs]
    unfold firstStep
    by_cases hlt : clamp y < clamp x
    · rw [if_pos (.inr hlt)]
      refine ⟨k + 1, y, by omega, hy, rfl, ?_⟩
      intro i z hi hz
      rcases (by omega : i = k + 1 ∨ i < k + 1) with rfl | hi'
      · rw [hy] at hz
        injection hz with hz
        subst hz
        exact ⟨by omega, fun h => absurd h (by omega)⟩
      · have := hall i z hi' hz
        exact ⟨by omega, fun _ => by omega⟩
    · rw [if_neg (by simp; omega)]
      refine ⟨p, x, by omega, hx, rfl, ?_⟩
      intro i z hi hz
      rcases (by omega : i = k + 1 ∨ i < k + 1) with rfl | hi'
      · rw [hy] at hz
        injection hz with hz
        subst hz
        exact ⟨by omega, fun h => absurd h (by omega)⟩
      · exact hall i z hi' hz

set_option maxHeartbeats 800000 in
theorem AgeSums_walk (t n m : Int) (w : World) :
    Calls Try.prog 5 #[.int .i64 t, .int .i64 n, .int .i64 m] w fun e w' => e = .returned (.bool true) ∧ Below w.heap.size w w' := by
  have e1 : later (later t [n]) [m] = later t [n, m] := by rw [later1, later1, later2]; unfold clamp; omega
  have e2 : later t [later n [m]] = later t [n, m] := by rw [later1, later1, later2]; unfold clamp; omega
  have e3 : later t [m, n] = later t [n, m] := by rw [later2, later2]; unfold clamp; omega
  have e4 : gone (later t [n, m]) t = 0 := by rw [later2]; unfold gone clamp; omega
  have e5 : gone t (later t [n, m]) ≤ later n [m] := by rw [later2, later1]; unfold gone clamp; omega
  have e6 : later t [] = clamp t := rfl
  have e7 : ((gone t (later t [n, m]) == later n [m]) = true) ∨ ((gone t (later t [n, m]) == later n [m]) = false ∧ (later t [n, m] == 1073741824) = true) := by
    rw [beq_iff_eq, beq_iff_eq, beq_eq_false_iff_ne, later2, later1]; unfold gone clamp; omega
  rcases e7 with e7 | ⟨e7, e8⟩
  all_goals
    go_enter Try.func5, Try.ntmps5
    go_wp2_with fail
    refine (Later_any _ _ _ _ _ _ _ (Ints.at2_ _ _ _ _ _ (by simp)) (by omega)).mono ?_
    rintro e w' ⟨rfl, rfl⟩
    go_wp2_with fail
    refine (Later_any _ _ _ _ _ _ _ (Ints.at1_ _ _ _ _ (by simp)) (by omega)).mono ?_
    rintro e w' ⟨rfl, rfl⟩
    go_wp2_with fail
    refine (Later_any _ _ _ _ _ _ _ (Ints.at1_ _ _ _ _ (by simp)) (by omega)).mono ?_
    rintro e w' ⟨rfl, rfl⟩
    go_wp2_with fail
    refine (Later_any _ _ _ _ _ _ _ (Ints.at1_ _ _ _ _ (by simp)) (by omega)).mono ?_
    rintro e w' ⟨rfl, rfl⟩
    go_wp2_with fail
    refine (Later_any _ _ _ _ _ _ _ (Ints.at1_ _ _ _ _ (by simp)) (by omega)).mono ?_
    rintro e w' ⟨rfl, rfl⟩
    go_wp2_with fail
    refine (Later_any _ _ _ _ _ _ _ (Ints.at2_ _ _ _ _ _ (by simp)) (by omega)).mono ?_
    rintro e w' ⟨rfl, rfl⟩
    go_wp2_with (go_at_call 15; refine (Gone_any _ _ _).mono ?_; rintro e w' ⟨rfl, rfl⟩)
    refine (Later_any _ _ _ _ 0 _ _ (Ints.nil_ _ _ _) (by omega)).mono ?_
    rintro e w' ⟨rfl, rfl⟩
    go_wp2_with (go_at_call 11; refine (Clamp_any _ _).mono ?_; rintro e w' ⟨rfl, rfl⟩)
    refine (wakes_any _).mono ?_
    rintro e w2 ⟨rfl, hb2⟩
    go_wp2_with fail
    go_ret
    exact ⟨rfl, Below.trans (by repeat first | exact Below.refl _ _ | assumption | (refine Below.alloc ?_ (by simp <;> omega) _) | (refine Below.drew ?_)) (hb2.mono (by simp; omega))⟩

set_option maxHeartbeats 400000 in
theorem AgeGone_walk (since n now : Int) (w : World) :
    Calls Try.prog 7 #[.int .i64 since, .int .i64 n, .int .i64 now] w fun e w' => e = .returned (.bool true) ∧ Below w.heap.size w w' := by
  have b := clamp_bd now
  by_cases h : 1073741824 ≤ clamp now
  · have k1 : oldB since n now = true := by unfold oldB clamp at *; simp at *; omega
    go_enter Try.func7, Try.ntmps7
    go_wp2_with (first | (go_at_call 11; refine (Clamp_any _ _).mono ?_; rintro e w' ⟨rfl, rfl⟩) | (go_at_call 17; refine (Old_any _ _ _ _).mono ?_; rintro e w' ⟨rfl, rfl⟩) | (go_at_call 8; refine (wakes_any _).mono ?_; rintro e w' ⟨rfl, hb⟩))
    go_ret
    exact ⟨rfl, hb⟩
  · have g0 : gone since now ≤ clamp now := by unfold gone clamp; omega
    by_cases h1 : clamp since ≤ clamp now
    · by_cases h2 : clamp n ≤ gone since now
      · have k1 : oldB since n now = true := by unfold oldB gone clamp at *; simp at *; omega
        go_enter Try.func7, Try.ntmps7
        go_wp2_with (first | (go_at_call 11; refine (Clamp_any _ _).mono ?_; rintro e w' ⟨rfl, rfl⟩) | (go_at_call 15; refine (Gone_any _ _ _).mono ?_; rintro e w' ⟨rfl, rfl⟩) | (go_at_call 17; refine (Old_any _ _ _ _).mono ?_; rintro e w' ⟨rfl, rfl⟩) | (go_at_call 8; refine (wakes_any _).mono ?_; rintro e w' ⟨rfl, hb⟩))
        go_ret
        exact ⟨rfl, hb⟩
      · have k1 : oldB since n now = false := by unfold oldB gone clamp at *; simp at *; omega
        have hd : decide (clamp n ≤ gone since now) = false := by simpa using h2
        go_enter Try.func7, Try.ntmps7
        go_wp2_with (first | (go_at_call 11; refine (Clamp_any _ _).mono ?_; rintro e w' ⟨rfl, rfl⟩) | (go_at_call 15; refine (Gone_any _ _ _).mono ?_; rintro e w' ⟨rfl, rfl⟩) | (go_at_call 17; refine (Old_any _ _ _ _).mono ?_; rintro e w' ⟨rfl, rfl⟩) | (go_at_call 8; refine (wakes_any _).mono ?_; rintro e w' ⟨rfl, hb⟩))
        go_ret
        exact ⟨rfl, hb⟩
    · have k1 : oldB since n now = false := by unfold oldB clamp at *; simp at *; omega
      have hd : decide (clamp since ≤ clamp now) = false := by simpa using h1
      go_enter Try.func7, Try.ntmps7
      go_wp2_with (first | (go_at_call 11; refine (Clamp_any _ _).mono ?_; rintro e w' ⟨rfl, rfl⟩) | (go_at_call 15; refine (Gone_any _ _ _).mono ?_; rintro e w' ⟨rfl, rfl⟩) | (go_at_call 17; refine (Old_any _ _ _ _).mono ?_; rintro e w' ⟨rfl, rfl⟩) | (go_at_call 8; refine (wakes_any _).mono ?_; rintro e w' ⟨rfl, hb⟩))
      go_ret
      exact ⟨rfl, hb⟩

end Go.Proofs.Ytlkngenhcclepaa
