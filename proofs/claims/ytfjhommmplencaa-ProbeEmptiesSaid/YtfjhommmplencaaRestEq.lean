/-
  Whether two rows of idle sockets are the same: slices.Equal, the document's own Same. Conditions: the rows read as lists of pairs, at most 100000 of them.
-/
import Derived.Test.YtfjhommmplencaaRest
import Derived.Laws.StructEq
namespace Go.Proofs.Ytfjhommmplencaa
open Go.RowKit

def valRe (x : Re) : Value := .agg #[.int .i64 x.1, .int .i64 x.2]
theorem eqRe (x y : Re) (w : World) : (Op.equalIn 10000 26 (valRe x) (valRe y)).run Try.prog w = .ok (decide (x = y)) w := by
  obtain ⟨a, b⟩ := x
  obtain ⟨c, d⟩ := y
  have u3 := Try.underlying3
  have hS : Try.prog.underlying 26 = some (.struct (Try.prog.fieldsOf 26)) := by kernel_rfl
  have hp : Try.prog.stoodInHeld 26 = false := by kernel_rfl
  unfold valRe
  rw [show (10000 : Nat) = 9999 + 1 from rfl, run_equalIn_agg w 9999 26 _ _ hS hp]
  simp only [Program.fieldsOf, Try.underlying26]
  go_simp
  by_cases h1 : a = c <;> by_cases h2 : b = d <;> simp [h1, h2]
set_option maxHeartbeats 800000 in
theorem EqualR_any (A1 A2 : Option Addr) (n1 n2 c1 c2 B1 B2 : Nat) (a b : List Re) (w : World) (ha : Res w B1 A1 n1 a) (hb : Res w B2 A2 n2 b) (hn1 : n1 ≤ 100000) (hn2 : n2 ≤ 100000) :
    Calls Try.prog 29 #[.slice A1 n1 c1, .slice A2 n2 c2] w fun e w' => e = .returned (.bool (decide (a = b))) ∧ Below w.heap.size w w' := by
  have HA := Lib.hid ha.1
  have HB := Lib.hid hb.1
  by_cases hne : n1 = n2
  · subst hne
    go_enter Try.func29, Try.ntmps29
    go_wp2
    go_loopw [13] (fun s5 wr => ∃ (k : Nat), k ≤ n1 ∧ s5 = .int .i64 k ∧ Hid (a.take k = b.take k) ∧ ∃ nq, wr = w.drewN nq) (fun s5 _ => n1 - (intOf s5).toNat)
    case atStart => exact ⟨0, Nat.zero_le _, rfl, rfl, 0, rfl⟩
    case round =>
      obtain ⟨k, hk, rfl, hab, nq, rfl⟩ := hrel
      by_cases hlt : k < n1
      · obtain ⟨b1, o1, x, rfl, _, hx, hc1, hc2⟩ := Res.cells ha hlt
        obtain ⟨b2, o2, y, rfl, _, hy, hd1, hd2⟩ := Res.cells hb hlt
        by_cases hxy : x = y
        · have hs : Hid (a.take (k + 1) = b.take (k + 1)) := by show _ = _; rw [take_succ_of hx.out, take_succ_of hy.out, hab.out, hxy]
          have hE := fun wx => eqRe x y wx
          rw [decide_eq_true hxy] at hE
          unfold valRe at hE
          have HX := Lib.hid hxy
          clear hxy
          go_wp2
          go_quiet (fail)
          go_wp2
          go_roundw
          case rel => exact ⟨k + 1, by omega, by go_num, hs, _, rfl⟩
          case measure => simp [intOf]; omega
        · have hs : decide (a = b) = false := by
            simp only [decide_eq_false_iff_not]
            intro e
            have h1 := hx.out
            rw [e, hy.out] at h1
            injection h1 with h1
            exact hxy h1.symm
          have HS := Lib.hid hs
          have hE := fun wx => eqRe x y wx
          rw [decide_eq_false hxy] at hE
          unfold valRe at hE
          have HX := Lib.hid hxy
          clear hxy hs
          go_wp2
          go_quiet (fail)
          go_wp2
          go_ret
          exact ⟨ret_bool HS.out.symm, ⟨rfl, rfl, rfl, Nat.le_refl _, fun _ _ => rfl⟩⟩
      · have hs : decide (a = b) = true := by
          have h := hab.out
          rw [List.take_of_length_le (by rw [HA.out]; omega), List.take_of_length_le (by rw [HB.out]; omega)] at h
          simp [h]
        have HS := Lib.hid hs
        clear hs
        go_wp2
        go_ret
        exact ⟨ret_bool HS.out.symm, ⟨rfl, rfl, rfl, Nat.le_refl _, fun _ _ => rfl⟩⟩
  · have hd : ((n1 : Int) != (n2 : Int)) = true := by simp; omega
    have hs : decide (a = b) = false := by
      simp only [decide_eq_false_iff_not]
      intro e
      exact hne (by rw [← HA.out, ← HB.out, e])
    have HS := Lib.hid hs
    have HN := Lib.hid hne
    clear hs hne
    go_enter Try.func29, Try.ntmps29
    go_wp2
    go_ret
    exact ⟨ret_bool HS.out.symm, Below.refl _ _⟩
set_option maxHeartbeats 800000 in
theorem rSame22_any (A1 A2 : Option Addr) (n1 n2 c1 c2 B1 B2 : Nat) (a b : List Re) (w : World) (ha : Res w B1 A1 n1 a) (hb : Res w B2 A2 n2 b) (hn1 : n1 ≤ 100000) (hn2 : n2 ≤ 100000) :
    Calls Try.prog 13 #[.slice A1 n1 c1, .slice A2 n2 c2] w fun e w' => e = .returned (.bool (decide (a = b))) ∧ Below w.heap.size w w' := by
  have HA := Lib.hid ha.1
  have HB := Lib.hid hb.1
  by_cases hne : n1 = n2
  · subst hne
    go_enter Try.func13, Try.ntmps13
    go_wp2
    go_loopw [5] (fun s5 wr => ∃ (k : Nat), k ≤ n1 ∧ s5 = .int .i64 k ∧ Hid (a.take k = b.take k) ∧ ∃ nq, wr = w.drewN nq) (fun s5 _ => n1 - (intOf s5).toNat)
    case atStart => exact ⟨0, Nat.zero_le _, rfl, rfl, 0, rfl⟩
    case round =>
      obtain ⟨k, hk, rfl, hab, nq, rfl⟩ := hrel
      by_cases hlt : k < n1
      · obtain ⟨b1, o1, x, rfl, _, hx, hc1, hc2⟩ := Res.cells ha hlt
        obtain ⟨b2, o2, y, rfl, _, hy, hd1, hd2⟩ := Res.cells hb hlt
        by_cases hxy : x = y
        · have hs : Hid (a.take (k + 1) = b.take (k + 1)) := by show _ = _; rw [take_succ_of hx.out, take_succ_of hy.out, hab.out, hxy]
          have hE := fun wx => eqRe x y wx
          rw [decide_eq_true hxy] at hE
          unfold valRe at hE
          have HX := Lib.hid hxy
          clear hxy
          go_wp2
          go_quiet (fail)
          go_wp2
          go_roundw
          case rel => exact ⟨k + 1, by omega, by go_num, hs, _, rfl⟩
          case measure => simp [intOf]; omega
        · have hs : decide (a = b) = false := by
            simp only [decide_eq_false_iff_not]
            intro e
            have h1 := hx.out
            rw [e, hy.out] at h1
            injection h1 with h1
            exact hxy h1.symm
          have HS := Lib.hid hs
          have hE := fun wx => eqRe x y wx
          rw [decide_eq_false hxy] at hE
          unfold valRe at hE
          have HX := Lib.hid hxy
          clear hxy hs
          go_wp2
          go_quiet (fail)
          go_wp2
          go_ret
          exact ⟨ret_bool HS.out.symm, ⟨rfl, rfl, rfl, Nat.le_refl _, fun _ _ => rfl⟩⟩
      · have hs : decide (a = b) = true := by
          have h := hab.out
          rw [List.take_of_length_le (by rw [HA.out]; omega), List.take_of_length_le (by rw [HB.out]; omega)] at h
          simp [h]
        have HS := Lib.hid hs
        clear hs
        go_wp2
        go_ret
        exact ⟨ret_bool HS.out.symm, ⟨rfl, rfl, rfl, Nat.le_refl _, fun _ _ => rfl⟩⟩
  · have hd : ((n1 : Int) != (n2 : Int)) = true := by simp; omega
    have hs : decide (a = b) = false := by
      simp only [decide_eq_false_iff_not]
      intro e
      exact hne (by rw [← HA.out, ← HB.out, e])
    have HS := Lib.hid hs
    have HN := Lib.hid hne
    clear hs hne
    go_enter Try.func13, Try.ntmps13
    go_wp2
    go_ret
    exact ⟨ret_bool HS.out.symm, Below.refl _ _⟩
end Go.Proofs.Ytfjhommmplencaa
