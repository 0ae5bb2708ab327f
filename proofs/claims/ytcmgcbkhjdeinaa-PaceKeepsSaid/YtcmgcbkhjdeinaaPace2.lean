/-
  What pace.May, When and Plan compute, and the document's helpers, each as one contract over the translated program. Conditions: slice arguments read as lists.
-/
import Derived.Test.YtcmgcbkhjdeinaaPace
namespace Go.Proofs.Ytcmgcbkhjdeinaa
open Go.RowKit

def mayB (started total : Int) (failed : Bool) (since stagger now : Int) : Bool := decide (started < total) && (decide (started < 1) || failed || oldB since stagger now)
theorem May_any (started total : Int) (failed : Bool) (since stagger now : Int) (w : World) :
    Calls Try.prog 9 #[.int .i64 started, .int .i64 total, .bool failed, .int .i64 since, .int .i64 stagger, .int .i64 now] w fun e w' => e = .returned (.bool (mayB started total failed since stagger now)) ∧ w = w' := by
  by_cases h1 : started < total
  · by_cases h2 : started < 1
    · have hm : mayB started total failed since stagger now = true := by simp [mayB, h1, h2]
      have HM := Lib.hid hm
      clear hm
      have hd1 : decide (started < total) = true := by simpa using h1
      have hd2 : decide (started < 1) = true := by simpa using h2
      go_enter Try.func9, Try.ntmps9
      go_wp2_with (go_at_call 16; refine (Old_any _ _ _ _).mono ?_; rintro e w' ⟨rfl, rfl⟩)
      go_ret
      exact ⟨ret_bool HM.out.symm, rfl⟩
    · have hd1 : decide (started < total) = true := by simpa using h1
      have hd2 : decide (started < 1) = false := by simpa using h2
      cases failed
      · have hm : mayB started total false since stagger now = oldB since stagger now := by simp [mayB, h1, h2]
        have HM := Lib.hid hm
        clear hm
        go_enter Try.func9, Try.ntmps9
        go_wp2_with (go_at_call 16; refine (Old_any _ _ _ _).mono ?_; rintro e w' ⟨rfl, rfl⟩)
        go_ret
        exact ⟨ret_bool HM.out.symm, rfl⟩
      · have hm : mayB started total true since stagger now = true := by simp [mayB, h1]
        have HM := Lib.hid hm
        clear hm
        go_enter Try.func9, Try.ntmps9
        go_wp2_with (go_at_call 16; refine (Old_any _ _ _ _).mono ?_; rintro e w' ⟨rfl, rfl⟩)
        go_ret
        exact ⟨ret_bool HM.out.symm, rfl⟩
  · have hm : mayB started total failed since stagger now = false := by simp [mayB, h1]
    have HM := Lib.hid hm
    clear hm
    have hd1 : decide (started < total) = false := by simpa using h1
    go_enter Try.func9, Try.ntmps9
    go_wp2_with (go_at_call 16; refine (Old_any _ _ _ _).mono ?_; rintro e w' ⟨rfl, rfl⟩)
    go_ret
    exact ⟨ret_bool HM.out.symm, rfl⟩
def whenOk (started total : Int) : Bool := decide (0 < started ∧ started < total)
theorem When_any (started total since stagger : Int) (w : World) :
    Calls Try.prog 15 #[.int .i64 started, .int .i64 total, .int .i64 since, .int .i64 stagger] w fun e w' =>
      e = .returned (.tuple #[.int .i64 (if whenOk started total then later since [stagger] else 0), .bool (whenOk started total)]) ∧ Below w.heap.size w w' := by
  by_cases h1 : 0 < started
  · by_cases h2 : started < total
    · have hm : whenOk started total = true := by simp [whenOk, h1, h2]
      have hd1 : decide (0 < started) = true := by simpa using h1
      have hd2 : decide (started < total) = true := by simpa using h2
      rw [hm]
      clear hm
      go_enter Try.func15, Try.ntmps15
      go_wp2_with fail
      refine (Later_any _ _ _ _ _ _ _ (Ints.at1_ _ _ _ _ (by simp)) (by omega)).mono ?_
      rintro e w' ⟨rfl, rfl⟩
      go_wp2_with fail
      go_ret2
      exact ⟨rfl, Below.new_ _ _⟩
    · have hm : whenOk started total = false := by simp [whenOk, h2]
      have hd1 : decide (0 < started) = true := by simpa using h1
      have hd2 : decide (started < total) = false := by simpa using h2
      rw [hm]
      clear hm
      go_enter Try.func15, Try.ntmps15
      go_wp2
      go_ret2
      exact ⟨rfl, Below.refl _ _⟩
  · have hm : whenOk started total = false := by simp [whenOk, h1]
    have hd1 : decide (0 < started) = false := by simpa using h1
    rw [hm]
    clear hm
    go_enter Try.func15, Try.ntmps15
    go_wp2
    go_ret2
    exact ⟨rfl, Below.refl _ _⟩
theorem rGreat14_any (A : Option Addr) (n c : Nat) (w : World) (hn : n ≤ 9223372036854775807) : Calls Try.prog 11 #[.slice A n c] w fun e w' => e = .returned (.bool (decide (100 < n))) ∧ w = w' := by
  go_enter Try.func11, Try.ntmps11
  go_wp2
  go_ret
  exact ⟨ret_bool (by simp; omega), rfl⟩
end Go.Proofs.Ytcmgcbkhjdeinaa
