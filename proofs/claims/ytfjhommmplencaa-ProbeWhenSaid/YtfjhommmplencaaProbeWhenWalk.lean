/-
  The walk of the statement ProbeWhen. Conditions: none.
-/
import Derived.Test.YtfjhommmplencaaProbeWakes
import Derived.Test.YtfjhommmplencaaOpenRe
import Derived.Test.YtfjhommmplencaaFirst
namespace Go.Proofs.Ytfjhommmplencaa
open Go.RowKit Go.Shelf

theorem clamp_laterW (t : Int) (l : List Int) : clamp (later t l) = later t l := by have := later_bd t l; exact clamp_of (by omega) (by omega)
theorem whenT_spec (l : List Re) (age : Int) (h : l ≠ []) : ∃ x ∈ l, (firstOf (endsOf l age)).2 = later x.2 [age] ∧ ∀ y ∈ l, later x.2 [age] ≤ later y.2 [age] := by
  have hne : endsOf l age ≠ [] := by simpa [endsOf] using h
  obtain ⟨z, hz, he, hall⟩ := firstOf_least (endsOf l age) hne
  unfold endsOf at hz
  obtain ⟨x, hx, rfl⟩ := List.mem_map.1 hz
  refine ⟨x, hx, by rw [he, clamp_laterW], fun y hy => ?_⟩
  have := hall (later y.2 [age]) (by unfold endsOf; exact List.mem_map.2 ⟨y, hy, rfl⟩)
  rwa [he, clamp_laterW, clamp_laterW] at this
theorem spent_none (age now : Int) (x : Re) : spentR [] age now x = decide (later x.2 [age] ≤ clamp now) := by
  unfold spentR oldB
  simp [later]
  exact decide_eq_decide.2 Iff.rfl
theorem when_some (l : List Re) (age : Int) (h : l ≠ []) : 0 < (outL l [] age (firstOf (endsOf l age)).2).length := by
  obtain ⟨x, hx, he, hall⟩ := whenT_spec l age h
  unfold outL
  rw [List.length_map, List.length_pos_iff]
  intro hn
  have := List.filter_eq_nil_iff.1 hn x hx
  rw [spent_none, he, clamp_laterW] at this
  simp at this
theorem when_none (l : List Re) (age : Int) (h : l ≠ []) (h0 : (firstOf (endsOf l age)).2 ≠ 0) : (outL l [] age ((firstOf (endsOf l age)).2 - 1)).length = 0 := by
  obtain ⟨x, hx, he, hall⟩ := whenT_spec l age h
  unfold outL
  rw [List.length_map, List.length_eq_zero_iff, List.filter_eq_nil_iff]
  intro y hy
  have h1 := hall y hy
  have h2 := later_bd x.2 [age]
  rw [spent_none, he]
  rw [he] at h0
  rw [clamp_of (by omega) (by omega)]
  simp
  omega
theorem when_bd (l : List Re) (age : Int) (h : l ≠ []) : 0 ≤ (firstOf (endsOf l age)).2 ∧ (firstOf (endsOf l age)).2 ≤ 1073741824 := by
  obtain ⟨x, hx, he, hall⟩ := whenT_spec l age h
  rw [he]
  exact later_bd x.2 [age]

set_option maxRecDepth 100000 in
set_option maxHeartbeats 8000000 in
theorem ProbeWhen_in (A1 : Option Addr) (n1 c1 : Nat) (l : List Re) (age : Int) (w : World)
    (hl : Res w w.heap.size A1 n1 l) (h1 : n1 ≤ 100) (ha0 : 0 ≤ age) (ha1 : age ≤ 1048576) :
    Calls Try.prog 3 #[.slice A1 n1 c1, .int .i64 age] w fun e w' => e = .returned (.bool true) ∧ Below w.heap.size w w' := by
  have G1 : Hid ((decide (100 < n1) || decide (100 < 0)) = false) := (by show _ = _; rw [decide_eq_false (by omega)]; rfl)
  have d1 : decide (age < 0) = false := by simp; omega
  have d2 : decide (1048576 < age) = false := by simp; omega
  have HL := Lib.hid hl.1
  go_enter Try.func3, Try.ntmps3
  go_wp2_with fail
  refine (Great22_any _ _ _ _ _ _ _ (by omega) (by omega)).mono ?_
  rw [G1.out]
  rintro e w' ⟨rfl, rfl⟩
  go_wp2_with fail
  go_loop [5] (fun s5 => ∃ i : Nat, i ≤ n1 ∧ s5 = .int .i64 i) (fun s5 => n1 - (intOf s5).toNat)
  case atStart => exact ⟨0, Nat.zero_le _, rfl⟩
  case round =>
    obtain ⟨i, hi, rfl⟩ := hrel
    by_cases hgo : i < n1
    · obtain ⟨b1, off1, x, rfl, hbb1, hx, hc1, hc2⟩ := Res.cells hl hgo
      have hbad : x.2 < 0 ∨ (¬ x.2 < 0 ∧ 1048576 < x.2) ∨ (¬ x.2 < 0 ∧ ¬ 1048576 < x.2) := by omega
      rcases hbad with h | ⟨h, h'⟩ | ⟨h, h'⟩
      · have q1 : decide (x.2 < 0) = true := by simpa using h
        clear h
        go_wp2_with fail
        refine (wakes22_any _).mono ?_
        rintro e w4 ⟨rfl, hb4⟩
        go_wp2_with fail
        go_ret
        exact ⟨rfl, hb4⟩
      · have q1 : decide (x.2 < 0) = false := by simp; omega
        have q2 : decide (1048576 < x.2) = true := by simpa using h'
        clear h h'
        go_wp2_with fail
        refine (wakes22_any _).mono ?_
        rintro e w4 ⟨rfl, hb4⟩
        go_wp2_with fail
        go_ret
        exact ⟨rfl, hb4⟩
      · have q1 : decide (x.2 < 0) = false := by simp; omega
        have q2 : decide (1048576 < x.2) = false := by simp; omega
        clear h h'
        go_wp2_with fail
        go_round
        case rel => exact ⟨i + 1, by omega, by go_num⟩
        case measure => simp [intOf]; omega
    · obtain rfl : i = n1 := by omega
      rcases Nat.eq_zero_or_pos i with h0 | h0
      · have hT : (firstOf (endsOf l age)).2 = 0 := by rw [List.eq_nil_of_length_eq_zero (HL.out.trans h0)]; rfl
        have HT := Lib.hid hT
        have HQ : Hid (decide (0 < i) = false) := by show _ = _; simp; omega
        have q1 : ((i : Int) == 0) = true := by simp; omega
        clear hT h0 hgo
        go_wp2_with fail
        refine (When_any _ _ _ l age _ hl (by omega)).mono ?_
        rw [HT.out, HQ.out]
        rintro e w2 ⟨rfl, hb⟩
        go_wp2_with fail
        refine (wakes22_any _).mono ?_
        rintro e w4 ⟨rfl, hb4⟩
        replace hb := hb.trans (hb4.mono hb.size)
        go_wp2_with fail
        go_ret
        exact ⟨rfl, hb⟩
      · have hne : l ≠ [] := by intro e; rw [e] at HL; have := HL.out; simp at this; omega
        obtain ⟨T, hT⟩ : ∃ T, T = (firstOf (endsOf l age)).2 := ⟨_, rfl⟩
        have hs := when_some l age hne
        have hz := when_none l age hne
        have hbd := when_bd l age hne
        rw [← hT] at hs hz hbd
        obtain ⟨t0, t1⟩ := hbd
        obtain ⟨O1, hO1⟩ : ∃ O, O = outL l [] age T := ⟨_, rfl⟩
        obtain ⟨O2, hO2⟩ : ∃ O, O = outL l [] age (T - 1) := ⟨_, rfl⟩
        rw [← hO1] at hs
        rw [← hO2] at hz
        obtain ⟨m1, hm1⟩ : ∃ m, O1.length = m := ⟨_, rfl⟩
        obtain ⟨m2, hm2⟩ : ∃ m, O2.length = m := ⟨_, rfl⟩
        have hm1b : m1 ≤ 100 := by rw [← hm1, hO1]; exact Nat.le_trans (outL_le _ _ _ _) (by rw [HL.out]; exact h1)
        have hm2b : m2 ≤ 100 := by rw [← hm2, hO2]; exact Nat.le_trans (outL_le _ _ _ _) (by rw [HL.out]; exact h1)
        rw [hm1] at hs
        rw [hm2] at hz
        have HT := Lib.hid hT
        have HO1 := Lib.hid hO1
        have HO2 := Lib.hid hO2
        have HM1 := Lib.hid hm1
        have HM2 := Lib.hid hm2
        have HZ := Lib.hid hz
        have HQ : Hid (decide (0 < i) = true) := by show _ = _; simpa using h0
        have q1 : ((i : Int) == 0) = false := by simp; omega
        have q2 : decide ((0 : Int) < (m1 : Int)) = true := by simp; omega
        have q3 : decide (0 < m1) = true := by simp; omega
        clear hT hO1 hO2 hm1 hm2 hz hs hgo hne
        by_cases ht : T = 0
        · have q4 : (T == 0) = true := by simpa using ht
          clear ht h0
          go_wp2_with fail
          refine (When_any _ _ _ l age _ hl (by omega)).mono ?_
          rw [← HT.out, HQ.out]
          rintro e w2 ⟨rfl, hb⟩
          replace hl := (hl.below hb).more hb.size
          go_wp2_with fail
          refine (Sift_any _ _ _ l age T _ 0 0 [] _ hl (by omega) (Ints.nil_ _ _ _) (by omega)).mono ?_
          rw [← HO1.out, HM1.out]
          rintro e w3 ⟨A3, c3, A4, c4, rfl, o3, o4, hbx⟩
          replace hl := (hl.below hbx).more hbx.size
          replace hb := hb.trans (hbx.mono hb.size)
          clear hbx o3 o4
          go_wp2_with fail
          refine (Sift_any _ _ _ l age (T - 1) _ 0 0 [] _ hl (by omega) (Ints.nil_ _ _ _) (by omega)).mono ?_
          rw [← HO2.out, HM2.out]
          rintro e w4 ⟨A5, c5, A6, c6, rfl, o3, o4, hbx⟩
          replace hb := hb.trans (hbx.mono hb.size)
          clear hbx o3 o4
          go_wp2_with fail
          refine (wakes22_any _).mono ?_
          rintro e w5 ⟨rfl, hbx⟩
          replace hb := hb.trans (hbx.mono hb.size)
          go_wp2_with fail
          go_ret
          exact ⟨rfl, hb⟩
        · have q4 : (T == 0) = false := by simpa using ht
          have q5 : ((m2 : Int) == 0) = true := by have := HZ.out ht; simp; omega
          clear ht h0
          go_wp2_with fail
          refine (When_any _ _ _ l age _ hl (by omega)).mono ?_
          rw [← HT.out, HQ.out]
          rintro e w2 ⟨rfl, hb⟩
          replace hl := (hl.below hb).more hb.size
          go_wp2_with fail
          refine (Sift_any _ _ _ l age T _ 0 0 [] _ hl (by omega) (Ints.nil_ _ _ _) (by omega)).mono ?_
          rw [← HO1.out, HM1.out]
          rintro e w3 ⟨A3, c3, A4, c4, rfl, o3, o4, hbx⟩
          replace hl := (hl.below hbx).more hbx.size
          replace hb := hb.trans (hbx.mono hb.size)
          clear hbx o3 o4
          go_wp2_with fail
          refine (Sift_any _ _ _ l age (T - 1) _ 0 0 [] _ hl (by omega) (Ints.nil_ _ _ _) (by omega)).mono ?_
          rw [← HO2.out, HM2.out]
          rintro e w4 ⟨A5, c5, A6, c6, rfl, o3, o4, hbx⟩
          replace hb := hb.trans (hbx.mono hb.size)
          clear hbx o3 o4
          go_wp2_with fail
          refine (wakes22_any _).mono ?_
          rintro e w5 ⟨rfl, hbx⟩
          replace hb := hb.trans (hbx.mono hb.size)
          go_wp2_with fail
          go_ret
          exact ⟨rfl, hb⟩

set_option maxRecDepth 100000 in
set_option maxHeartbeats 2000000 in
theorem ProbeWhen_walk (A1 : Option Addr) (n1 c1 : Nat) (l : List Re) (age : Int) (w : World)
    (hl : Res w w.heap.size A1 n1 l) (_o1 : ∀ x ∈ l, okRe x) (h1 : n1 ≤ 9223372036854775807) (_q1 : n1 ≤ c1) :
    Calls Try.prog 3 #[.slice A1 n1 c1, .int .i64 age] w fun e w' => e = .returned (.bool true) ∧ Below w.heap.size w w' := by
  cases g1 : (decide (100 < n1) || decide (100 < 0))
  · cases d1 : decide (age < 0)
    · cases d2 : decide (1048576 < age)
      · simp only [Bool.or_eq_false_iff, decide_eq_false_iff_not] at g1 d1 d2
        exact ProbeWhen_in A1 n1 c1 l age w hl (by omega) (by omega) (by omega)
      · have G1 := Lib.hid g1
        clear g1
        go_enter Try.func3, Try.ntmps3
        go_wp2_with fail
        refine (Great22_any _ _ _ _ _ _ _ h1 (by omega)).mono ?_
        rw [G1.out]
        rintro e w' ⟨rfl, rfl⟩
        go_wp2_with fail
        refine (wakes22_any _).mono ?_
        rintro e w4 ⟨rfl, hb4⟩
        go_wp2_with fail
        go_ret
        exact ⟨rfl, hb4⟩
    · have G1 := Lib.hid g1
      clear g1
      go_enter Try.func3, Try.ntmps3
      go_wp2_with fail
      refine (Great22_any _ _ _ _ _ _ _ h1 (by omega)).mono ?_
      rw [G1.out]
      rintro e w' ⟨rfl, rfl⟩
      go_wp2_with fail
      refine (wakes22_any _).mono ?_
      rintro e w4 ⟨rfl, hb4⟩
      go_wp2_with fail
      go_ret
      exact ⟨rfl, hb4⟩
  · have G1 := Lib.hid g1
    clear g1
    go_enter Try.func3, Try.ntmps3
    go_wp2_with fail
    refine (Great22_any _ _ _ _ _ _ _ h1 (by omega)).mono ?_
    rw [G1.out]
    rintro e w' ⟨rfl, rfl⟩
    go_wp2_with fail
    refine (wakes22_any _).mono ?_
    rintro e w4 ⟨rfl, hb4⟩
    go_wp2_with fail
    go_ret
    exact ⟨rfl, hb4⟩
end Go.Proofs.Ytfjhommmplencaa
