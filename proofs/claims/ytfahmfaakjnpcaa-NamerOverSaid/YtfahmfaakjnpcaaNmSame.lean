/-
  What the document's ints and Great of chapter 18 compute; == of configurations. Conditions: rows of at most 100000.
-/
import Derived.Test.YtfahmfaakjnpcaaNmV
import Derived.Laws.StructEq
namespace Go.Proofs.Ytfahmfaakjnpcaa
set_option linter.unusedVariables false
set_option linter.unusedSimpArgs false
open Go.RowKit Go.Shelf

def cfB (x y : Cf) : Bool := decide (x.1 = y.1) && decide (x.2.1 = y.2.1) && decide (x.2.2.1 = y.2.2.1) && decide (x.2.2.2.1 = y.2.2.2.1) && decide (x.2.2.2.2.1 = y.2.2.2.2.1) && decide (x.2.2.2.2.2.1 = y.2.2.2.2.2.1) && decide (x.2.2.2.2.2.2.1 = y.2.2.2.2.2.2.1) && decide (x.2.2.2.2.2.2.2.1 = y.2.2.2.2.2.2.2.1) && decide (x.2.2.2.2.2.2.2.2 = y.2.2.2.2.2.2.2.2)
theorem cfB_iff (x y : Cf) : cfB x y = true ↔ x = y := by
  obtain ⟨a0, a1, a2, a3, a4, a5, a6, a7, a8⟩ := x
  obtain ⟨b0, b1, b2, b3, b4, b5, b6, b7, b8⟩ := y
  simp [cfB, and_assoc]
set_option maxHeartbeats 4000000 in
theorem eqCf (x y : Cf) (w : World) : (Op.equalIn 10000 25 (.agg #[.int .i64 x.1, .int .i64 x.2.1, .int .i64 x.2.2.1, .int .i64 x.2.2.2.1, .int .i64 x.2.2.2.2.1, .int .i64 x.2.2.2.2.2.1, .int .i64 x.2.2.2.2.2.2.1, .int .i64 x.2.2.2.2.2.2.2.1, .int .i64 x.2.2.2.2.2.2.2.2]) (.agg #[.int .i64 y.1, .int .i64 y.2.1, .int .i64 y.2.2.1, .int .i64 y.2.2.2.1, .int .i64 y.2.2.2.2.1, .int .i64 y.2.2.2.2.2.1, .int .i64 y.2.2.2.2.2.2.1, .int .i64 y.2.2.2.2.2.2.2.1, .int .i64 y.2.2.2.2.2.2.2.2])).run Try.prog w = .ok (cfB x y) w := by
  obtain ⟨a0, a1, a2, a3, a4, a5, a6, a7, a8⟩ := x
  obtain ⟨b0, b1, b2, b3, b4, b5, b6, b7, b8⟩ := y
  have u3 := Try.underlying3
  have hS : Try.prog.underlying 25 = some (.struct (Try.prog.fieldsOf 25)) := by kernel_rfl
  have hp : Try.prog.stoodInHeld 25 = false := by kernel_rfl
  rw [show (10000 : Nat) = 9999 + 1 from rfl, run_equalIn_agg w 9999 25 _ _ hS hp]
  simp only [Program.fieldsOf, Try.underlying25]
  go_simp
  by_cases h0 : a0 = b0
  case neg => simp [cfB, h0]
  by_cases h1 : a1 = b1
  case neg => simp [cfB, h0, h1]
  by_cases h2 : a2 = b2
  case neg => simp [cfB, h0, h1, h2]
  by_cases h3 : a3 = b3
  case neg => simp [cfB, h0, h1, h2, h3]
  by_cases h4 : a4 = b4
  case neg => simp [cfB, h0, h1, h2, h3, h4]
  by_cases h5 : a5 = b5
  case neg => simp [cfB, h0, h1, h2, h3, h4, h5]
  by_cases h6 : a6 = b6
  case neg => simp [cfB, h0, h1, h2, h3, h4, h5, h6]
  by_cases h7 : a7 = b7
  case neg => simp [cfB, h0, h1, h2, h3, h4, h5, h6, h7]
  by_cases h8 : a8 = b8
  case neg => simp [cfB, h0, h1, h2, h3, h4, h5, h6, h7, h8]
  simp [cfB, h0, h1, h2, h3, h4, h5, h6, h7, h8]
set_option maxHeartbeats 800000 in
theorem ints18_any (A1 A2 : Option Addr) (n1 n2 c1 c2 B1 B2 : Nat) (a b : List Int) (w : World) (ha : Ints w B1 A1 n1 a) (hb : Ints w B2 A2 n2 b) (hn1 : n1 ≤ 100000) (hn2 : n2 ≤ 100000) :
    Calls Try.prog 33 #[.slice A1 n1 c1, .slice A2 n2 c2] w fun e w' => e = .returned (.bool (decide (a = b))) ∧ Below w.heap.size w w' := by
  have HA := Lib.hid ha.len
  have HB := Lib.hid hb.len
  by_cases hne : n1 = n2
  · subst hne
    go_enter Try.func33, Try.ntmps33
    go_wp2
    go_loopw [5] (fun s5 wr => ∃ (k : Nat), k ≤ n1 ∧ s5 = .int .i64 k ∧ Hid (a.take k = b.take k) ∧ ∃ nq, wr = w.drewN nq) (fun s5 _ => n1 - (intOf s5).toNat)
    case atStart => exact ⟨0, Nat.zero_le _, rfl, rfl, 0, rfl⟩
    case round =>
      obtain ⟨k, hk, rfl, hab, nq, rfl⟩ := hrel
      by_cases hlt : k < n1
      · obtain ⟨b1, o1, x, rfl, _, hx, hc1⟩ := ha.at_ hlt
        obtain ⟨b2, o2, y, rfl, _, hy, hc2⟩ := hb.at_ hlt
        by_cases hxy : x = y
        · have hb0 : (x != y) = false := by simpa using hxy
          have hs : Hid (a.take (k + 1) = b.take (k + 1)) := by show _ = _; rw [take_succ_of hx.out, take_succ_of hy.out, hab.out, hxy]
          have HX := Lib.hid hxy
          clear hxy
          go_wp2
          go_quiet (fail)
          go_wp2
          go_roundw
          case rel => exact ⟨k + 1, by omega, by go_num, hs, _, rfl⟩
          case measure => simp [intOf]; omega
        · have hb0 : (x != y) = true := by simpa using hxy
          have hs : decide (a = b) = false := by
            simp only [decide_eq_false_iff_not]
            intro e
            have h1 := hx.out
            rw [e, hy.out] at h1
            injection h1 with h1
            exact hxy h1.symm
          have HS := Lib.hid hs
          have HX := Lib.hid hxy
          clear hxy hs
          go_wp2
          go_quiet (fail)
          go_wp2
          go_ret
          exact ⟨ret_bool HS.out.symm, ⟨rfl, rfl, rfl, Nat.le_refl _, fun _ _ => rfl⟩⟩
      · have hs : decide (a = b) = true := by
          have h := hab.out
          rw [List.take_of_length_le (by rw [HA.out]; omega), List.take_of_length_le (by rw [HB.out]; omega)] at h
          simp [h]
        have HS := Lib.hid hs
        clear hs
        go_wp2
        go_ret
        exact ⟨ret_bool HS.out.symm, ⟨rfl, rfl, rfl, Nat.le_refl _, fun _ _ => rfl⟩⟩
  · have hd : ((n1 : Int) != (n2 : Int)) = true := by simp; omega
    have hs : decide (a = b) = false := by
      simp only [decide_eq_false_iff_not]
      intro e
      exact hne (by rw [← HA.out, ← HB.out, e])
    have HS := Lib.hid hs
    have HN := Lib.hid hne
    clear hs hne
    go_enter Try.func33, Try.ntmps33
    go_wp2
    go_ret
    exact ⟨ret_bool HS.out.symm, Below.refl _ _⟩
end Go.Proofs.Ytfahmfaakjnpcaa
