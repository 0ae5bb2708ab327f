/-
  The walks of the five statements of layer 3: each returns true and writes nothing that was there. Conditions: none beyond the reading of a slice of ints.
-/
import Derived.Test.YtlkngenhcclepaaAgeRef
namespace Go.Proofs.Ytlkngenhcclepaa
open Go.RowKit

theorem wakes_any (w : World) : Calls Try.prog 8 #[] w fun e w' => e = .returned (.bool true) ∧ Below w.heap.size w w' := by
  have h1 := Ints.new3 w 7 3 3 3
  have e1 : firstOf [7, 3, 3] = (1, 3) := by decide
  have e2 : later 5 [3, 2] = 10 := by decide
  have e3 : later 1073741824 [1] = 1073741824 := by decide
  have e4 : oldB 5 3 7 = false := by decide
  have e5 : oldB 5 3 8 = true := by decide
  have e6 : gone 2 9 = 7 := by decide
  go_enter Try.func8, Try.ntmps8
  go_wp2_with (first | (go_at_call 9; refine (First_any _ _ _ _ [7, 3, 3] _ h1 (by omega)).mono ?_; rintro e w' ⟨rfl, rfl⟩) | (go_at_call 17; refine (Old_any _ _ _ _).mono ?_; rintro e w' ⟨rfl, rfl⟩) | (go_at_call 15; refine (Gone_any _ _ _).mono ?_; rintro e w' ⟨rfl, rfl⟩))
  refine (Later_any _ _ _ _ _ _ _ (Ints.at2_ _ _ _ _ _ (by simp)) (by omega)).mono ?_
  rintro e w' ⟨rfl, rfl⟩
  go_wp2_with (first | (go_at_call 17; refine (Old_any _ _ _ _).mono ?_; rintro e w' ⟨rfl, rfl⟩) | (go_at_call 15; refine (Gone_any _ _ _).mono ?_; rintro e w' ⟨rfl, rfl⟩))
  refine (Later_any _ _ _ _ _ _ _ (Ints.at1_ _ _ _ _ (by simp)) (by omega)).mono ?_
  rintro e w' ⟨rfl, rfl⟩
  go_wp2_with (first | (go_at_call 17; refine (Old_any _ _ _ _).mono ?_; rintro e w' ⟨rfl, rfl⟩) | (go_at_call 15; refine (Gone_any _ _ _).mono ?_; rintro e w' ⟨rfl, rfl⟩))
  go_ret
  exact ⟨rfl, (by repeat first | exact Below.refl _ _ | assumption | (refine Below.alloc ?_ (by simp <;> omega) _) | (refine Below.drew ?_))⟩

set_option maxHeartbeats 400000 in
theorem AgeTells_walk (t n now : Int) (A : Option Addr) (m c : Nat) (l : List Int) (w : World) (hl : Ints w w.heap.size A m l) (hm : m ≤ 9223372036854775807) :
    Calls Try.prog 3 #[.int .i64 t, .int .i64 n, .int .i64 now, .slice A m c] w fun e w' => e = .returned (.bool true) ∧ Below w.heap.size w w' := by
  by_cases h : 200 < m
  · go_enter Try.func3, Try.ntmps3
    go_wp2_with (go_at_call 8; refine (wakes_any _).mono ?_; rintro e w' ⟨rfl, hb⟩)
    go_ret
    exact ⟨rfl, hb⟩
  · go_enter Try.func3, Try.ntmps3
    go_wp2_with (first | (go_at_call 9; refine (First_any _ _ _ _ l _ hl (by omega)).mono ?_; rintro e w' ⟨rfl, rfl⟩) | (go_at_call 10; refine (rFirst_any _ _ _ _ l _ hl (by omega)).mono ?_; rintro e w' ⟨rfl, rfl⟩) | (go_at_call 11; refine (Clamp_any _ _).mono ?_; rintro e w' ⟨rfl, rfl⟩) | (go_at_call 12; refine (rClamp_any _ _).mono ?_; rintro e w' ⟨rfl, rfl⟩) | (go_at_call 13; refine (Later_any _ _ _ _ _ l _ hl (by omega)).mono ?_; rintro e w' ⟨rfl, rfl⟩) | (go_at_call 14; refine (rLater_any _ _ _ _ _ l _ hl (by omega)).mono ?_; rintro e w' ⟨rfl, rfl⟩) | (go_at_call 15; refine (Gone_any _ _ _).mono ?_; rintro e w' ⟨rfl, rfl⟩) | (go_at_call 16; refine (rGone_any _ _ _).mono ?_; rintro e w' ⟨rfl, rfl⟩) | (go_at_call 17; refine (Old_any _ _ _ _).mono ?_; rintro e w' ⟨rfl, rfl⟩))
    refine (rOld_any _ _ _ _).mono ?_
    rintro e w1 ⟨rfl, hb1⟩
    go_wp2_with fail
    refine (wakes_any _).mono ?_
    rintro e w2 ⟨rfl, hb2⟩
    go_wp2_with fail
    go_ret
    exact ⟨rfl, hb1.trans (hb2.mono hb1.size)⟩

theorem later1 (t x : Int) : later t [x] = clamp (clamp t + clamp x) := rfl
theorem later2 (t x y : Int) : later t [x, y] = clamp (clamp (clamp t + clamp x) + clamp y) := rfl

set_option maxHeartbeats 800000 in
theorem AgeStays_walk (since n now more : Int) (w : World) :
    Calls Try.prog 4 #[.int .i64 since, .int .i64 n, .int .i64 now, .int .i64 more] w fun e w' => e = .returned (.bool true) ∧ Below w.heap.size w w' := by
  have hge : clamp now ≤ later now [more] := by rw [later1]; unfold clamp; omega
  have k5 : oldB since 0 since = true := by unfold oldB clamp; simp; omega
  have k : (oldB since n now = true ∧ oldB since n (later now [more]) = true) ∨ (oldB since n now = false ∧ oldB since (later n [more]) now = false ∧ oldB (later since [more]) n now = false) := by
    by_cases h : oldB since n now = true
    · refine .inl ⟨h, ?_⟩
      rw [later1]; unfold oldB clamp at *; simp at *; omega
    · refine .inr ⟨by simpa using h, ?_, ?_⟩ <;> rw [later1] <;> unfold oldB clamp at * <;> simp at * <;> omega
  rcases k with ⟨k1, k2⟩ | ⟨k1, k2, k3⟩
  · cases k3 : oldB since (later n [more]) now <;> cases k4 : oldB (later since [more]) n now
    all_goals
      go_enter Try.func4, Try.ntmps4
      go_wp2_with fail
      refine (Later_any _ _ _ _ _ _ _ (Ints.at1_ _ _ _ _ (by simp)) (by omega)).mono ?_
      rintro e w' ⟨rfl, rfl⟩
      go_wp2_with (go_at_call 17; refine (Old_any _ _ _ _).mono ?_; rintro e w' ⟨rfl, rfl⟩)
      refine (Later_any _ _ _ _ _ _ _ (Ints.at1_ _ _ _ _ (by simp)) (by omega)).mono ?_
      rintro e w' ⟨rfl, rfl⟩
      go_wp2_with (go_at_call 17; refine (Old_any _ _ _ _).mono ?_; rintro e w' ⟨rfl, rfl⟩)
      refine (Later_any _ _ _ _ _ _ _ (Ints.at1_ _ _ _ _ (by simp)) (by omega)).mono ?_
      rintro e w' ⟨rfl, rfl⟩
      go_wp2_with (first | (go_at_call 17; refine (Old_any _ _ _ _).mono ?_; rintro e w' ⟨rfl, rfl⟩) | (go_at_call 11; refine (Clamp_any _ _).mono ?_; rintro e w' ⟨rfl, rfl⟩))
      refine (wakes_any _).mono ?_
      rintro e w2 ⟨rfl, hb2⟩
      go_wp2_with fail
      go_ret
      exact ⟨rfl, Below.trans (by repeat first | exact Below.refl _ _ | assumption | (refine Below.alloc ?_ (by simp <;> omega) _) | (refine Below.drew ?_)) (hb2.mono (by simp; omega))⟩
  · go_enter Try.func4, Try.ntmps4
    go_wp2_with fail
    refine (Later_any _ _ _ _ _ _ _ (Ints.at1_ _ _ _ _ (by simp)) (by omega)).mono ?_
    rintro e w' ⟨rfl, rfl⟩
    go_wp2_with (go_at_call 17; refine (Old_any _ _ _ _).mono ?_; rintro e w' ⟨rfl, rfl⟩)
    refine (Later_any _ _ _ _ _ _ _ (Ints.at1_ _ _ _ _ (by simp)) (by omega)).mono ?_
    rintro e w' ⟨rfl, rfl⟩
    go_wp2_with (go_at_call 17; refine (Old_any _ _ _ _).mono ?_; rintro e w' ⟨rfl, rfl⟩)
    refine (Later_any _ _ _ _ _ _ _ (Ints.at1_ _ _ _ _ (by simp)) (by omega)).mono ?_
    rintro e w' ⟨rfl, rfl⟩
    go_wp2_with (first | (go_at_call 17; refine (Old_any _ _ _ _).mono ?_; rintro e w' ⟨rfl, rfl⟩) | (go_at_call 11; refine (Clamp_any _ _).mono ?_; rintro e w' ⟨rfl, rfl⟩))
    refine (wakes_any _).mono ?_
    rintro e w2 ⟨rfl, hb2⟩
    go_wp2_with fail
    go_ret
    exact ⟨rfl, Below.trans (by repeat first | exact Below.refl _ _ | assumption | (refine Below.alloc ?_ (by simp <;> omega) _) | (refine Below.drew ?_)) (hb2.mono (by simp; omega))⟩
end Go.Proofs.Ytlkngenhcclepaa
