/-
  The walk of the statement AgeFirst: it returns true and writes nothing that was there. Conditions: none beyond the reading of a slice of ints.
-/
import Derived.Test.YtlkngenhcclepaaAgeLaws2
namespace Go.Proofs.Ytlkngenhcclepaa
open Go.RowKit
/-- A slot that counts up to m. -/
def UpTo (m : Nat) (s : Value) : Prop := ∃ k : Nat, k ≤ m ∧ s = .int .i64 k

set_option maxHeartbeats 400000 in
theorem AgeFirst_walk (A : Option Addr) (m c : Nat) (l : List Int) (w : World) (hl : Ints w w.heap.size A m l) (hm : m ≤ 9223372036854775807) :
    Calls Try.prog 6 #[.slice A m c] w fun e w' => e = .returned (.bool true) ∧ Below w.heap.size w w' := by
  have HL := Lib.hid hl.len
  by_cases h : 200 < m
  · go_enter Try.func6, Try.ntmps6
    go_wp2_with (go_at_call 8; refine (wakes_any _).mono ?_; rintro e w' ⟨rfl, hb⟩)
    go_ret
    exact ⟨rfl, hb⟩
  · by_cases h0 : m = 0
    · obtain rfl : l = [] := List.eq_nil_of_length_eq_zero (by rw [HL.out]; exact h0)
      have e0 : firstOf [] = (-1, 0) := rfl
      have hb0 : ((m : Int) == 0) = true := by simp; omega
      have H0 := Lib.hid h0
      clear h0
      go_enter Try.func6, Try.ntmps6
      go_wp2_with (first | (go_at_call 9; refine (First_any _ _ _ _ [] _ hl (by omega)).mono ?_; rintro e w' ⟨rfl, rfl⟩) | (go_at_call 8; refine (wakes_any _).mono ?_; rintro e w' ⟨rfl, hb⟩))
      go_ret
      exact ⟨rfl, hb⟩
    · obtain ⟨p, x, hp, hx, hs, hall⟩ := firstOf_spec l (m - 1) (by rw [HL.out]; omega)
      have hfull : l.take (m - 1 + 1) = l := List.take_of_length_le (by rw [HL.out]; omega)
      rw [hfull] at hs
      clear hfull
      have hpm : p < m := by omega
      obtain ⟨b, off, x', rfl, hbb, hx', hc⟩ := hl.at_ hpm
      obtain rfl : x = x' := by have := hx'.out; rw [hx] at this; injection this
      have HX := Lib.hid hx
      have HALL := Lib.hid hall
      clear hx hall hx'
      have hb0 : ((m : Int) == 0) = false := by simp; omega
      have hd1 : decide ((200 : Int) < (m : Int)) = false := by simp; omega
      have hd2 : decide ((p : Int) < 0) = false := by simp
      have hd3 : decide (m ≤ p) = false := by simp; omega
      go_enter Try.func6, Try.ntmps6
      go_wp2_with (first | (go_at_call 9; refine (First_any _ _ _ _ l _ hl (by omega)).mono ?_; rintro e w' ⟨rfl, rfl⟩) | (go_at_call 11; refine (Clamp_any _ _).mono ?_; rintro e w' ⟨rfl, rfl⟩))
      go_loop [5, 6] (fun s5 _ => UpTo m s5) (fun s5 _ => m - (intOf s5).toNat)
      case atStart => exact ⟨0, Nat.zero_le _, rfl⟩
      case round =>
        obtain ⟨k, hk, rfl⟩ := hrel
        by_cases hlt : k < m
        · obtain ⟨b, off, y, hA, hbb, hy, hc'⟩ := hl.at_ hlt
          injection hA with hA
          injection hA with hA1 hA2
          subst hA1 hA2
          obtain ⟨q1, q2⟩ := HALL.out k y (by omega) hy.out
          have q3 := clamp_bd y
          by_cases hkp : k < p
          · have hne : (clamp y == clamp x) = false := by simp; have := q2 hkp; omega
            clear q2
            go_wp2_with (go_at_call 11; refine (Clamp_any _ _).mono ?_; rintro e w' ⟨rfl, rfl⟩)
            go_round
            case rel => exact ⟨k + 1, by omega, by go_num⟩
            case measure => simp [intOf]; omega
          · clear q2
            have hd : decide (k < p) = false := by simpa using hkp
            go_wp2_with (go_at_call 11; refine (Clamp_any _ _).mono ?_; rintro e w' ⟨rfl, rfl⟩)
            go_round
            case rel => exact ⟨k + 1, by omega, by go_num⟩
            case measure => simp [intOf]; omega
        · go_wp2_with (go_at_call 8; refine (wakes_any _).mono ?_; rintro e w' ⟨rfl, hb⟩)
          go_ret
          exact ⟨rfl, hb⟩
end Go.Proofs.Ytlkngenhcclepaa
