/-
  The walk of the statement LinePushes. Conditions: none.
-/
import Derived.Test.YtaajjojgpphjiaaLineOrderWalk
namespace Go.Proofs.Ytaajjojgpphjiaa
open Go.RowKit

theorem dropRun_self (l : List Int) : dropRun l l = ([], l.length) := by
  have : ∀ (l : List Int) (g : Nat), l.foldl (fun s x => if x ∈ s.1 then (s.1.erase x, s.2 + 1) else s) (l, g) = ([], g + l.length) := by
    intro l
    induction l with
    | nil => intro g; rfl
    | cons x xs ih =>
      intro g
      rw [List.foldl_cons]
      simp only [List.mem_cons, true_or, if_true, List.erase_cons_head]
      rw [ih]
      simp; omega
  have h := this l 0
  rw [Nat.zero_add] at h
  exact h

def LPr (w1 : World) (l : List Int) (n m : Nat) (s4 s6 : Value) (wr : World) : Prop :=
  ∃ (k q : Nat) (A' : Option Addr) (c' : Nat), k ≤ n ∧ k + q = m ∧ s6 = .int .i64 k ∧ s4 = .slice A' q c' ∧ q ≤ c' ∧ Ints wr wr.heap.size A' q (l.drop k) ∧ Below w1.heap.size w1 wr
def LPb (w1 : World) (l : List Int) (n m : Nat) (s4 s6 : Value) (wr : World) : Prop :=
  ∃ (k q : Nat) (A' : Option Addr) (c' : Nat), k ≤ n ∧ k + q = m ∧ s6 = .int .i64 k ∧ s4 = .slice A' q c' ∧ q ≤ c' ∧ Ints wr wr.heap.size A' q (l.take q) ∧ Below w1.heap.size w1 wr

set_option maxRecDepth 100000 in
set_option maxHeartbeats 2000000 in
theorem LinePushes_walk (A1 : Option Addr) (n1 c1 : Nat) (a : List Int) (A2 : Option Addr) (n2 c2 : Nat) (b : List Int) (w : World) (ha : Ints w w.heap.size A1 n1 a) (hc1 : n1 ≤ c1) (hm1 : n1 ≤ 9223372036854775807) (hb : Ints w w.heap.size A2 n2 b) (hc2 : n2 ≤ c2) (hm2 : n2 ≤ 9223372036854775807) :
    Calls Try.prog 7 #[.slice A1 n1 c1, .slice A2 n2 c2] w fun e w' => e = .returned (.bool true) ∧ Below w.heap.size w w' := by
  have HA := Lib.hid ha.len
  have HB := Lib.hid hb.len
  by_cases hg1 : 100 < n1
  · have hgd : decide ((100 : Int) < (n1 : Int)) = true := by simp; omega
    go_enter Try.func7, Try.ntmps7
    go_wp2_with fail
    refine (Wakes_any _).mono ?_
    rintro e w1 ⟨rfl, hb⟩
    go_wp2_with fail
    go_ret
    exact ⟨rfl, hb⟩
  have hgd : decide ((100 : Int) < (n1 : Int)) = false := by simp; omega
  by_cases hg2 : 100 < n2
  · have hgd2 : decide ((100 : Int) < (n2 : Int)) = true := by simp; omega
    go_enter Try.func7, Try.ntmps7
    go_wp2_with fail
    refine (Wakes_any _).mono ?_
    rintro e w1 ⟨rfl, hb⟩
    go_wp2_with fail
    go_ret
    exact ⟨rfl, hb⟩
  have hgd2 : decide ((100 : Int) < (n2 : Int)) = false := by simp; omega
  go_enter Try.func7, Try.ntmps7
  go_wp2_with fail
  refine (Push_any _ _ _ _ _ _ a b _ ha hb (by omega) (by omega) hc1).mono ?_
  rintro e w1 ⟨A3, c3, rfl, ho, hbw1⟩
  obtain ⟨m, hmd⟩ : ∃ m, m = n1 + n2 := ⟨_, rfl⟩
  rw [← hmd] at ho ⊢
  have hall := ho.ints
  have hmc := ho.2.1
  clear ho
  have HMD := Lib.hid hmd
  have m1 : m ≤ 200 := by omega
  have m2 : n1 ≤ m := by omega
  have m3 : n2 ≤ m := by omega
  clear hmd
  go_wp2_with fail
  go_loopw [6, 8] (fun s4 s6 wr => LPr w1 (a ++ b) n1 m s4 s6 wr) (fun _ s6 _ => n1 - (intOf s6).toNat)
  case atStart => exact ⟨0, m, A3, c3, Nat.zero_le _, by omega, rfl, rfl, hmc, hall, Below.refl _ _⟩
  case round =>
    obtain ⟨k, q, A4, c4, hk, hkq, rfl, rfl, hqc, hi, hbr⟩ := hrel
    by_cases hlt : k < n1
    · have hq : decide (0 < q) = true := by simp; omega
      have HQ := Lib.hid hq
      clear hq
      go_wp2_with fail
      refine (Front_any _ _ _ _ _ hi (by omega) hqc).mono ?_
      rw [HQ.out]
      rintro e w2 ⟨A5, c5, rfl, ho5, hb5⟩
      rw [List.drop_drop] at ho5
      have hbr2 := hbr.trans (hb5.mono hbr.size)
      clear hb5 hbr hi
      go_wp2_with fail
      go_roundw
      case rel => exact ⟨k + 1, q - 1, A5, c5, by omega, by omega, by go_num, rfl, ho5.2.1, ho5.ints, hbr2⟩
      case measure => simp [intOf]; omega
    · obtain rfl : k = n1 := by omega
      rw [List.drop_left' HA.out] at hi
      go_wp2_with fail
      go_loopw [7, 12] (fun s5 s10 wx => LPb wr (a ++ b) n2 m s5 s10 wx) (fun _ s10 _ => n2 - (intOf s10).toNat)
      case atStart => exact ⟨0, m, A3, c3, Nat.zero_le _, by omega, rfl, rfl, hmc, by rw [List.take_of_length_le (by rw [List.length_append, HA.out, HB.out, HMD.out]; omega)]; exact (hall.below hbr).more hbr.size, Below.refl _ _⟩
      case round =>
        obtain ⟨i, p, A6, c6, hi1, hip, rfl, rfl, hpc, hj, hbx⟩ := hrel
        by_cases hlt2 : i < n2
        · have hq : decide (0 < p) = true := by simp; omega
          have HQ := Lib.hid hq
          clear hq
          go_wp2_with fail
          refine (Back_any _ _ _ _ _ hj (by omega) hpc).mono ?_
          rw [HQ.out]
          rintro e w2 ⟨A5, c5, rfl, ho5, hb5⟩
          rw [List.take_take, Nat.min_eq_left (by omega)] at ho5
          have hbr2 := hbx.trans (hb5.mono hbx.size)
          clear hb5 hbx hj
          go_wp2_with fail
          go_roundw
          case rel => exact ⟨i + 1, p - 1, A5, c5, by omega, by omega, by go_num, rfl, ho5.2.1, ho5.ints, hbr2⟩
          case measure => simp [intOf]; omega
        · obtain rfl : i = n2 := by omega
          obtain rfl : q = i := by have := HMD.out; omega
          obtain rfl : p = k := by have := HMD.out; omega
          rw [List.take_left' HA.out] at hj
          have hb1x : Below w1.heap.size w1 _ := hbr.trans (hbx.mono hbr.size)
          have hbwx : Below w.heap.size w _ := hbw1.trans (hb1x.mono hbw1.size)
          have hallx := (hall.below hb1x).more hb1x.size
          have hax := (ha.below hbwx).more hbwx.size
          have hbx2 := (hb.below hbwx).more hbwx.size
          have hix := (hi.below hbx).more hbx.size
          clear hall ha hb hbr hbx hi hb1x hbw1
          go_wp2_with fail
          refine (Drop_any _ _ _ _ _ _ _ _ _ hallx hallx (by omega) (by omega)).mono ?_
          rw [dropRun_self]
          rintro e w2 ⟨A7, c7, rfl, ho7, hb7⟩
          have hgn : (a ++ b).length = m := by rw [List.length_append, HA.out, HB.out, HMD.out]
          have hgm : ((m : Int) == (p : Int) + (q : Int)) = true := by have := HMD.out; simp; omega
          rw [hgn]
          clear hgn ho7
          have hallx := (hallx.below hb7).more hb7.size
          have hax := (hax.below hb7).more hb7.size
          have hbx2 := (hbx2.below hb7).more hb7.size
          have hix := (hix.below hb7).more hb7.size
          have hj := (hj.below hb7).more hb7.size
          have hbw2 := hbwx.trans (hb7.mono hbwx.size)
          clear hb7 hbwx
          go_wp2_with fail
          refine (Same_any _ _ _ _ _ _ b b _ hix hbx2 (by omega) (by omega)).mono ?_
          have hd : sameL b b = true := by simp [sameL]
          rw [hd]
          clear hd
          rintro e w3 ⟨rfl, hb3⟩
          have hallx := (hallx.below hb3).more hb3.size
          have hax := (hax.below hb3).more hb3.size
          have hbx2 := (hbx2.below hb3).more hb3.size
          have hj := (hj.below hb3).more hb3.size
          have hbw3 := hbw2.trans (hb3.mono hbw2.size)
          clear hb3 hbw2 hix
          go_wp2_with fail
          refine (Same_any _ _ _ _ _ _ a a _ hj hax (by omega) (by omega)).mono ?_
          have hd : sameL a a = true := by simp [sameL]
          rw [hd]
          clear hd
          rintro e w4 ⟨rfl, hb4⟩
          have hallx := (hallx.below hb4).more hb4.size
          have hax := (hax.below hb4).more hb4.size
          have hbx2 := (hbx2.below hb4).more hb4.size
          have hbw4 := hbw3.trans (hb4.mono hbw3.size)
          clear hb4 hbw3 hj
          go_wp2_with fail
          refine (Turned_any _ _ _ _ _ hallx (by omega)).mono ?_
          rintro e w5 ⟨A8, c8, rfl, ho8, hb5⟩
          have hax := (hax.below hb5).more hb5.size
          have hbx2 := (hbx2.below hb5).more hb5.size
          have hi8 := ho8.ints
          have hbw5 := hbw4.trans (hb5.mono hbw4.size)
          clear hb5 hbw4 ho8 hallx
          go_wp2_with fail
          refine (Turned_any _ _ _ _ _ hbx2 (by omega)).mono ?_
          rintro e w6 ⟨A9, c9, rfl, ho9, hb6⟩
          have hax := (hax.below hb6).more hb6.size
          have hi8 := (hi8.below hb6).more hb6.size
          have hi9 := ho9.ints
          have hc9 := ho9.2.1
          have hbw6 := hbw5.trans (hb6.mono hbw5.size)
          clear hb6 hbw5 ho9 hbx2
          go_wp2_with fail
          refine (Turned_any _ _ _ _ _ hax (by omega)).mono ?_
          rintro e w7 ⟨A10, c10, rfl, ho10, hb7⟩
          have hi8 := (hi8.below hb7).more hb7.size
          have hi9 := (hi9.below hb7).more hb7.size
          have hi10 := ho10.ints
          have hbw7 := hbw6.trans (hb7.mono hbw6.size)
          clear hb7 hbw6 ho10 hax
          go_wp2_with fail
          refine (Push_any _ _ _ _ _ _ _ _ _ hi9 hi10 (by omega) (by omega) hc9).mono ?_
          rintro e w8 ⟨A11, c11, rfl, ho11, hb8⟩
          rw [← List.reverse_append, show q + p = m by have := HMD.out; omega] at ho11
          have hi8 := (hi8.below hb8).more hb8.size
          have hbw8 := hbw7.trans (hb8.mono hbw7.size)
          clear hb8 hbw7 hi9 hi10
          go_wp2_with fail
          refine (Same_any _ _ _ _ _ _ _ _ _ hi8 ho11.ints (by omega) (by omega)).mono ?_
          have hd : sameL (a ++ b).reverse (a ++ b).reverse = true := by simp [sameL]
          rw [hd]
          clear hd
          rintro e w9 ⟨rfl, hb9⟩
          go_wp2_with fail
          refine (Wakes_any _).mono ?_
          rintro e w10 ⟨rfl, hb10⟩
          go_wp2_with fail
          go_ret
          exact ⟨rfl, (hbw8.trans (hb9.mono hbw8.size)).trans (hb10.mono (Nat.le_trans hbw8.size hb9.size))⟩
end Go.Proofs.Ytaajjojgpphjiaa
