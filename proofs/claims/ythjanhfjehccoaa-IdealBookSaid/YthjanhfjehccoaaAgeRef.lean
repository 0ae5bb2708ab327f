/-
  What the functions of the document's answer to layer 3 compute: the same functions as those of package 'age'. Conditions: a slice argument reads as a list of ints.
-/
import Derived.Test.YthjanhfjehccoaaAge
namespace Go.Proofs.Ythjanhfjehccoaa
set_option linter.unusedVariables false
set_option linter.unusedSimpArgs false
open Go.RowKit

theorem rClamp_any (t : Int) (w : World) : Calls Try.prog 75 #[.int .i64 t] w fun e w' => e = .returned (.int .i64 (clamp t)) ∧ w = w' := by
  rcases (by omega : t < 0 ∨ (0 ≤ t ∧ t ≤ 1073741824) ∨ 1073741824 < t) with h | ⟨h, h1⟩ | h
  · go_enter Try.func75, Try.ntmps75
    go_wp2
    go_ret
    exact ⟨ret_int (by unfold clamp; omega), rfl⟩
  · go_enter Try.func75, Try.ntmps75
    go_wp2
    go_ret
    exact ⟨ret_int (by unfold clamp; omega), rfl⟩
  · have h0 : ¬ t < 0 := by omega
    go_enter Try.func75, Try.ntmps75
    go_wp2
    go_ret
    exact ⟨ret_int (by unfold clamp; omega), rfl⟩

set_option maxHeartbeats 400000 in
theorem rLater_any (t : Int) (A : Option Addr) (n c B : Nat) (l : List Int) (w : World) (hl : Ints w B A n l) (hn : n ≤ 1000) :
    Calls Try.prog 76 #[.int .i64 t, .slice A n c] w fun e w' => e = .returned (.int .i64 (later t l)) ∧ w = w' := by
  have HL := Lib.hid hl.len
  go_enter Try.func76, Try.ntmps76
  go_wp2_with (go_at_call 75; refine (rClamp_any _ _).mono ?_; rintro e w' ⟨rfl, rfl⟩)
  go_loop [0, 5] (fun s0 s5 => ∃ k : Nat, k ≤ n ∧ s5 = .int .i64 k ∧ s0 = .int .i64 (later t (l.take k))) (fun _ s5 => n - (intOf s5).toNat)
  case atStart => exact ⟨0, Nat.zero_le _, rfl, rfl⟩
  case round =>
    obtain ⟨k, hk, rfl, rfl⟩ := hrel
    have hb := later_bd t (l.take k)
    by_cases hlt : k < n
    · obtain ⟨b, off, x, rfl, hbb, hx, hc⟩ := hl.at_ hlt
      have hb2 := clamp_bd x
      have hs : later t (l.take (k + 1)) = clamp (later t (l.take k) + clamp x) := by rw [take_succ_of hx.out, later_snoc]
      have HS := Lib.hid hs
      clear hs
      go_wp2_with (go_at_call 75; refine (rClamp_any _ _).mono ?_; rintro e w' ⟨rfl, rfl⟩)
      go_round
      case rel => exact ⟨k + 1, by omega, by go_num, by rw [HS.out]⟩
      case measure => simp [intOf]; omega
    · go_wp2
      go_ret
      exact ⟨ret_int (by rw [List.take_of_length_le (by rw [HL.out]; omega)]), rfl⟩

theorem rOld_any (since age now : Int) (w : World) : Calls Try.prog 62 #[.int .i64 since, .int .i64 age, .int .i64 now] w fun e w' => e = .returned (.bool (oldB since age now)) ∧ Below w.heap.size w w' := by
  have h1 := Ints.new1 w age 3
  go_enter Try.func62, Try.ntmps62
  go_wp2_with (first | (go_at_call 75; refine (rClamp_any _ _).mono ?_; rintro e w' ⟨rfl, rfl⟩) | (go_at_call 76; refine (rLater_any _ _ _ _ _ [age] _ h1 (by omega)).mono ?_; rintro e w' ⟨rfl, rfl⟩))
  go_ret
  exact ⟨ret_bool (decide_eq_decide.2 Iff.rfl), Below.new_ w _⟩

end Go.Proofs.Ythjanhfjehccoaa
