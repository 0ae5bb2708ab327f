/-
  slices.Contains, IndexFunc, ContainsFunc at []int: for whatever test. Conditions: the row reads as a list of at most 100000 ints; the test's calls return and write nothing that was there.
-/
import Derived.Test.YthjanhfjehccoaaSlicesI
import Derived.Shelf.Abstract
namespace Go.Proofs.Ythjanhfjehccoaa
set_option linter.unusedVariables false
set_option linter.unusedSimpArgs false
open Go.RowKit

theorem placeOf_nonneg (l : List Int) (x : Int) : decide (0 ≤ placeOf l x) = decide (x ∈ l) := by
  by_cases h : x ∈ l
  · have : ∃ k : Nat, placeOf l x = k := by
      unfold placeOf
      have hs : (l.findIdx? fun y => y == x).isSome = true := by
        rw [List.findIdx?_isSome, List.any_eq_true]
        exact ⟨x, h, by simp⟩
      obtain ⟨k, hk⟩ := Option.isSome_iff_exists.1 hs
      exact ⟨k, by rw [hk]⟩
    obtain ⟨k, hk⟩ := this
    rw [hk]
    simp [h]
  · rw [placeOf_miss h]
    simp [h]

theorem ContainsI_any (A : Option Addr) (n c B : Nat) (l : List Int) (x : Int) (w : World) (hl : Ints w B A n l) (hn : n ≤ 100000) :
    Calls Try.prog 78 #[.slice A n c, .int .i64 x] w fun e w' => e = .returned (.bool (decide (x ∈ l))) ∧ w = w' := by
  have HP := Lib.hid (placeOf_nonneg l x)
  go_enter Try.func78, Try.ntmps78
  go_wp2_with (go_at_call 69; refine (IndexI_any _ _ _ _ l _ _ hl hn).mono ?_; rintro e w' ⟨rfl, rfl⟩)
  go_ret
  exact ⟨ret_bool HP.out, rfl⟩

end Go.Proofs.Ythjanhfjehccoaa
