/-
  What switchboardref04.Same computes: whether two rows of numbers are one list. Conditions: the arguments read as lists of ints, of at most 100000 numbers.
-/
import Derived.Test.YthjanhfjehccoaaRows
import Derived.Test.YthjanhfjehccoaaBase
namespace Go.Proofs.Ythjanhfjehccoaa
set_option linter.unusedVariables false
set_option linter.unusedSimpArgs false
open Go.RowKit

def sameB (a b : List Int) : Bool := decide (a = b)
set_option maxHeartbeats 400000 in
theorem rSame4_any (A1 A2 : Option Addr) (n1 n2 c1 c2 B1 B2 : Nat) (a b : List Int) (w : World) (ha : Ints w B1 A1 n1 a) (hb : Ints w B2 A2 n2 b) (hn1 : n1 ≤ 100000) (hn2 : n2 ≤ 100000) :
    Calls Try.prog 55 #[.slice A1 n1 c1, .slice A2 n2 c2] w fun e w' => e = .returned (.bool (sameB a b)) ∧ Below w.heap.size w w' := by
  have HA := Lib.hid ha.len
  have HB := Lib.hid hb.len
  by_cases hne : n1 = n2
  · subst hne
    go_enter Try.func55, Try.ntmps55
    go_wp2
    go_loopw [5] (fun s5 wr => ∃ (k : Nat), k ≤ n1 ∧ s5 = .int .i64 k ∧ Hid (a.take k = b.take k) ∧ ∃ nq, wr = w.drewN nq) (fun s5 _ => n1 - (intOf s5).toNat)
    case atStart => exact ⟨0, Nat.zero_le _, rfl, rfl, 0, rfl⟩
    case round =>
      obtain ⟨k, hk, rfl, hab, nq, rfl⟩ := hrel
      by_cases hlt : k < n1
      · obtain ⟨b1, o1, x, rfl, _, hx, hc1⟩ := ha.at_ hlt
        obtain ⟨b2, o2, y, rfl, _, hy, hc2⟩ := hb.at_ hlt
        by_cases hxy : x = y
        · have hb0 : (x != y) = false := by simpa using hxy
          have hs : Hid (a.take (k + 1) = b.take (k + 1)) := by show _ = _; rw [take_succ_of hx.out, take_succ_of hy.out, hab.out, hxy]
          have HX := Lib.hid hxy
          clear hxy
          go_wp2
          go_quiet (fail)
          go_wp2
          go_roundw
          case rel => exact ⟨k + 1, by omega, by go_num, hs, _, rfl⟩
          case measure => simp [intOf]; omega
        · have hb0 : (x != y) = true := by simpa using hxy
          have hs : sameB a b = false := by
            simp only [sameB, decide_eq_false_iff_not]
            intro e
            have h1 := hx.out
            rw [e, hy.out] at h1
            injection h1 with h1
            exact hxy h1.symm
          have HS := Lib.hid hs
          have HX := Lib.hid hxy
          clear hxy hs
          go_wp2
          go_quiet (fail)
          go_wp2
          go_ret
          exact ⟨ret_bool HS.out.symm, ⟨rfl, rfl, rfl, Nat.le_refl _, fun _ _ => rfl⟩⟩
      · have hs : sameB a b = true := by
          have h := hab.out
          rw [List.take_of_length_le (by rw [HA.out]; omega), List.take_of_length_le (by rw [HB.out]; omega)] at h
          simp [sameB, h]
        have HS := Lib.hid hs
        clear hs
        go_wp2
        go_ret
        exact ⟨ret_bool HS.out.symm, ⟨rfl, rfl, rfl, Nat.le_refl _, fun _ _ => rfl⟩⟩
  · have hd : ((n1 : Int) != (n2 : Int)) = true := by simp; omega
    have hs : sameB a b = false := by
      simp only [sameB, decide_eq_false_iff_not]
      intro e
      exact hne (by rw [← HA.out, ← HB.out, e])
    have HS := Lib.hid hs
    have HN := Lib.hid hne
    clear hs hne
    go_enter Try.func55, Try.ntmps55
    go_wp2
    go_ret
    exact ⟨ret_bool HS.out.symm, Below.refl _ _⟩
end Go.Proofs.Ythjanhfjehccoaa
