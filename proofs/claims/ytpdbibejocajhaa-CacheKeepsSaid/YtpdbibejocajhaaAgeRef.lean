/-
  What the functions of the document's answer to layer 3 compute: the same functions as those of package 'age'. Conditions: a slice argument reads as a list of ints.
-/
import Derived.Test.YtpdbibejocajhaaAge
namespace Go.Proofs.Ytpdbibejocajhaa
set_option linter.unusedVariables false
set_option linter.unusedSimpArgs false
open Go.RowKit

theorem rClamp_any (t : Int) (w : World) : Calls Try.prog 14 #[.int .i64 t] w fun e w' => e = .returned (.int .i64 (clamp t)) ∧ w = w' := by
  rcases (by omega : t < 0 ∨ (0 ≤ t ∧ t ≤ 1073741824) ∨ 1073741824 < t) with h | ⟨h, h1⟩ | h
  · go_enter Try.func14, Try.ntmps14
    go_wp2
    go_ret
    exact ⟨ret_int (by unfold clamp; omega), rfl⟩
  · go_enter Try.func14, Try.ntmps14
    go_wp2
    go_ret
    exact ⟨ret_int (by unfold clamp; omega), rfl⟩
  · have h0 : ¬ t < 0 := by omega
    go_enter Try.func14, Try.ntmps14
    go_wp2
    go_ret
    exact ⟨ret_int (by unfold clamp; omega), rfl⟩

set_option maxHeartbeats 400000 in
theorem rLater_any (t : Int) (A : Option Addr) (n c B : Nat) (l : List Int) (w : World) (hl : Ints w B A n l) (hn : n ≤ 1000) :
    Calls Try.prog 35 #[.int .i64 t, .slice A n c] w fun e w' => e = .returned (.int .i64 (later t l)) ∧ w = w' := by
  have HL := Lib.hid hl.len
  go_enter Try.func35, Try.ntmps35
  go_wp2_with (go_at_call 14; refine (rClamp_any _ _).mono ?_; rintro e w' ⟨rfl, rfl⟩)
  go_loop [0, 5] (fun s0 s5 => ∃ k : Nat, k ≤ n ∧ s5 = .int .i64 k ∧ s0 = .int .i64 (later t (l.take k))) (fun _ s5 => n - (intOf s5).toNat)
  case atStart => exact ⟨0, Nat.zero_le _, rfl, rfl⟩
  case round =>
    obtain ⟨k, hk, rfl, rfl⟩ := hrel
    have hb := later_bd t (l.take k)
    by_cases hlt : k < n
    · obtain ⟨b, off, x, rfl, hbb, hx, hc⟩ := hl.at_ hlt
      have hb2 := clamp_bd x
      have hs : later t (l.take (k + 1)) = clamp (later t (l.take k) + clamp x) := by rw [take_succ_of hx.out, later_snoc]
      have HS := Lib.hid hs
      clear hs
      go_wp2_with (go_at_call 14; refine (rClamp_any _ _).mono ?_; rintro e w' ⟨rfl, rfl⟩)
      go_round
      case rel => exact ⟨k + 1, by omega, by go_num, by rw [HS.out]⟩
      case measure => simp [intOf]; omega
    · go_wp2
      go_ret
      exact ⟨ret_int (by rw [List.take_of_length_le (by rw [HL.out]; omega)]), rfl⟩

set_option maxHeartbeats 400000 in
theorem rFirst_any (A : Option Addr) (n c B : Nat) (l : List Int) (w : World) (hl : Ints w B A n l) (hn : n ≤ 1000) :
    Calls Try.prog 34 #[.slice A n c] w fun e w' => e = .returned (.tuple #[.int .i64 (firstOf l).1, .int .i64 (firstOf l).2]) ∧ w = w' := by
  have HL := Lib.hid hl.len
  go_enter Try.func34, Try.ntmps34
  go_wp2
  go_loop [4, 5, 6] (fun s2 s3 s9 => ∃ k : Nat, k ≤ n ∧ s9 = .int .i64 k ∧ s2 = .int .i64 (firstOf (l.take k)).1 ∧ s3 = .int .i64 (firstOf (l.take k)).2) (fun _ _ s9 => n - (intOf s9).toNat)
  case atStart => exact ⟨0, Nat.zero_le _, rfl, rfl, rfl⟩
  case round =>
    obtain ⟨k, hk, rfl, rfl, rfl⟩ := hrel
    by_cases hlt : k < n
    · obtain ⟨b, off, x, rfl, hbb, hx, hc⟩ := hl.at_ hlt
      have HS := Lib.hid (firstOf_take (by rw [HL.out]; exact hlt) hx.out)
      obtain ⟨p, hp⟩ : ∃ p, p = (firstOf (l.take k)).1 := ⟨_, rfl⟩
      obtain ⟨q, hq⟩ : ∃ q, q = (firstOf (l.take k)).2 := ⟨_, rfl⟩
      rw [← hp, ← hq]
      have HP := Lib.hid hp
      have HQ := Lib.hid hq
      clear hp hq
      by_cases h1 : p < 0
      · have HS2 : Hid (firstOf (l.take (k + 1)) = ((k : Int), clamp x)) := by
          show _ = _; rw [HS.out]; unfold firstStep; rw [if_pos (.inl (by rw [← HP.out]; exact h1))]
        clear HS
        go_wp2_with (go_at_call 14; refine (rClamp_any _ _).mono ?_; rintro e w' ⟨rfl, rfl⟩)
        go_round
        case rel => exact ⟨k + 1, by omega, by go_num, by rw [HS2.out], by rw [HS2.out]⟩
        case measure => simp [intOf]; omega
      · by_cases h2 : clamp x < q
        · have HS2 : Hid (firstOf (l.take (k + 1)) = ((k : Int), clamp x)) := by
            show _ = _; rw [HS.out]; unfold firstStep; rw [if_pos (.inr (by rw [← HQ.out]; exact h2))]
          clear HS
          go_wp2_with (go_at_call 14; refine (rClamp_any _ _).mono ?_; rintro e w' ⟨rfl, rfl⟩)
          go_round
          case rel => exact ⟨k + 1, by omega, by go_num, by rw [HS2.out], by rw [HS2.out]⟩
          case measure => simp [intOf]; omega
        · have HS2 : Hid (firstOf (l.take (k + 1)) = firstOf (l.take k)) := by
            show _ = _; rw [HS.out]; unfold firstStep; rw [if_neg (by rw [← HP.out, ← HQ.out]; omega)]
          clear HS
          go_wp2_with (go_at_call 14; refine (rClamp_any _ _).mono ?_; rintro e w' ⟨rfl, rfl⟩)
          go_round
          case rel => exact ⟨k + 1, by omega, by go_num, by rw [HS2.out, HP.out], by rw [HS2.out, HQ.out]⟩
          case measure => simp [intOf]; omega
    · have hfin : l.take k = l := List.take_of_length_le (by rw [HL.out]; omega)
      have HF := Lib.hid hfin
      clear hfin
      go_wp2
      go_ret2
      exact ⟨by rw [HF.out]; rfl, rfl⟩

end Go.Proofs.Ytpdbibejocajhaa
