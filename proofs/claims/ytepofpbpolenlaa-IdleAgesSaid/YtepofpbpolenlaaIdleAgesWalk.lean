/-
  The walk of the statement IdleAges. Conditions: none.
-/
import Derived.Test.YtepofpbpolenlaaIdleWakes
import Derived.Test.YtepofpbpolenlaaOpenRe
import Derived.Test.YtepofpbpolenlaaFirst
namespace Go.Proofs.Ytepofpbpolenlaa
open Go.RowKit Go.Shelf

theorem later_one (t x : Int) : later t [x] = clamp (clamp t + clamp x) := rfl
theorem oldR_iff (age now : Int) (x : Re) : oldR age now x = decide (later x.2 [age] ≤ clamp now) := rfl
theorem whenT_spec (l : List Re) (age : Int) (h : l ≠ []) : ∃ x ∈ l, (firstOf (endsOf l age)).2 = later x.2 [age] ∧ ∀ y ∈ l, later x.2 [age] ≤ later y.2 [age] := by
  have hne : endsOf l age ≠ [] := by simpa [endsOf] using h
  obtain ⟨z, hz, he, hall⟩ := firstOf_least (endsOf l age) hne
  unfold endsOf at hz
  obtain ⟨x, hx, rfl⟩ := List.mem_map.1 hz
  refine ⟨x, hx, by rw [he, clamp_later], fun y hy => ?_⟩
  have := hall (later y.2 [age]) (by unfold endsOf; exact List.mem_map.2 ⟨y, hy, rfl⟩)
  rwa [he, clamp_later, clamp_later] at this
theorem old_some (l : List Re) (age now : Int) (h : l ≠ []) : decide (0 < (l.filter (oldR age now)).length) = decide ((firstOf (endsOf l age)).2 ≤ clamp now) := by
  obtain ⟨x, hx, he, hall⟩ := whenT_spec l age h
  rw [he, Bool.eq_iff_iff, decide_eq_true_iff, decide_eq_true_iff, List.length_pos_iff, ne_eq, List.filter_eq_nil_iff]
  constructor
  · intro hn
    by_cases hc : later x.2 [age] ≤ clamp now
    · exact hc
    · exfalso
      refine hn fun y hy => ?_
      rw [oldR_iff]
      have := hall y hy
      simp; omega
  · intro hc hn
    have := hn x hx
    rw [oldR_iff] at this
    simp at this
    omega
theorem old_more (l : List Re) (age now : Int) (h : now ≤ 1099511627776) (hw : (Lit.int .i64 now).wf = true) : (l.filter (oldR age now)).length ≤ (l.filter (oldR age (now + 1))).length := by
  have hm : ∀ l : List Re, (l.filter (oldR age now)).length ≤ (l.filter (oldR age (now + 1))).length := by
    intro l
    induction l with
    | nil => exact Nat.le_refl _
    | cons x xs ih =>
      rw [List.filter_cons, List.filter_cons]
      cases h1 : oldR age now x
      · rw [if_neg (by decide)]
        split
        · simp; omega
        · exact ih
      · have h2 : oldR age (now + 1) x = true := by
          rw [oldR_iff] at h1 ⊢
          simp at h1 ⊢
          unfold clamp at h1 ⊢
          omega
        rw [h2]
        simp
        exact ih
  exact hm l

set_option maxRecDepth 100000 in
set_option maxHeartbeats 4000000 in
theorem IdleAges_in (A1 : Option Addr) (n1 c1 : Nat) (l : List Re) (age now : Int) (w : World)
    (hl : Res w w.heap.size A1 n1 l) (h1 : n1 ≤ 100) (ha0 : 0 ≤ age) (ha1 : age ≤ 1048576) (hnow : now ≤ 1099511627776) (hwf : (Lit.int .i64 now).wf = true) :
    Calls Try.prog 4 #[.slice A1 n1 c1, .int .i64 age, .int .i64 now] w fun e w' => e = .returned (.bool true) ∧ Below w.heap.size w w' := by
  have g1 : (decide (100 < n1) || decide (100 < 0)) = false := by simp; omega
  have G1 := Lib.hid g1
  have hbd := bd_i64 hwf
  have d1 : decide (age < 0) = false := by simpa using ha0
  have d2 : decide (1048576 < age) = false := by simpa using ha1
  have d3 : decide (1099511627776 < now) = false := by simpa using hnow
  obtain ⟨T, hT⟩ : ∃ T, T = (firstOf (endsOf l age)).2 := ⟨_, rfl⟩
  have hsa := filter_both (oldR age now) l
  have hsb := filter_both (oldR age (now + 1)) l
  have hmono := old_more l age now hnow hwf
  have hla : (l.filter (oldR age now)).length ≤ l.length := List.length_filter_le _ _
  have hlb : (l.filter (oldR age (now + 1))).length ≤ l.length := List.length_filter_le _ _
  obtain ⟨p1, hp1⟩ : ∃ m, m = (l.filter (oldR age now)).length := ⟨_, rfl⟩
  obtain ⟨p2, hp2⟩ : ∃ m, m = (l.filter (fun x => !oldR age now x)).length := ⟨_, rfl⟩
  obtain ⟨p3, hp3⟩ : ∃ m, m = (l.filter (oldR age (now + 1))).length := ⟨_, rfl⟩
  obtain ⟨p4, hp4⟩ : ∃ m, m = (l.filter (fun x => !oldR age (now + 1) x)).length := ⟨_, rfl⟩
  rw [← hp1, ← hp2, hl.1] at hsa
  rw [← hp3, ← hp4, hl.1] at hsb
  rw [← hp1, ← hp3] at hmono
  rw [← hp1, hl.1] at hla
  rw [← hp3, hl.1] at hlb
  have HT := Lib.hid hT
  have H1 := Lib.hid hp1
  have H2 := Lib.hid hp2
  have H3 := Lib.hid hp3
  have H4 := Lib.hid hp4
  have HSA := Lib.hid hsa
  have HSB := Lib.hid hsb
  have HL := Lib.hid hl.1
  have q1 : ((p1 : Int) + (p2 : Int) != (n1 : Int)) = false := by simp; omega
  have q2 : ((p3 : Int) + (p4 : Int) != (n1 : Int)) = false := by simp; omega
  have q3 : decide ((p3 : Int) < (p1 : Int)) = false := by simp; omega
  have q4 : decide (p3 < p1) = false := by simp; omega
  have hp2l : p2 ≤ n1 := by omega
  have hp4l : p4 ≤ n1 := by omega
  clear g1 hT hp1 hp2 hp3 hp4 hsa hsb
  go_enter Try.func4, Try.ntmps4
  go_wp2_with fail
  refine (great21_any _ _ _ _ _ _ _ (by omega) (by omega)).mono ?_
  rw [G1.out]
  rintro e w' ⟨rfl, rfl⟩
  go_wp2_with fail
  refine (When_any _ _ _ l age _ hl (by omega)).mono ?_
  rw [← HT.out]
  rintro e w1 ⟨rfl, hb1⟩
  have hl1 := (hl.below hb1).more hb1.size
  go_wp2_with fail
  refine (Old_row _ _ _ l age now _ hl1 (by omega)).mono ?_
  rw [← H1.out, ← H2.out]
  rintro e w2 ⟨B1, k1, B2, k2, rfl, _, _, hb2⟩
  have hbw2 := hb1.trans (hb2.mono hb1.size)
  have hl2 := (hl.below hbw2).more hbw2.size
  clear hb1 hb2 hl1
  go_wp2_with fail
  refine (Old_row _ _ _ l age (now + 1) _ hl2 (by omega)).mono ?_
  rw [← H3.out, ← H4.out]
  rintro e w3 ⟨B3, k3, B4, k4, rfl, _, _, hb3⟩
  have hbw3 := hbw2.trans (hb3.mono hbw2.size)
  have hl3 := (hl.below hbw3).more hbw3.size
  clear hb3 hbw2 hl2
  rcases Nat.eq_zero_or_pos n1 with h0 | h0
  · subst h0
    have hT0 : T = 0 := by
      have hn : l = [] := List.eq_nil_of_length_eq_zero HL.out
      rw [HT.out, hn]; rfl
    subst hT0
    go_wp2_with fail
    refine (wakes21_any _).mono ?_
    rintro e w4 ⟨rfl, hb4⟩
    go_wp2_with fail
    go_ret
    exact ⟨rfl, hbw3.trans (hb4.mono hbw3.size)⟩
  · have hne : l ≠ [] := by intro e; have := HL.out; rw [e] at this; simp at this; omega
    have k1 := old_some l age now hne
    have k2 := old_some l age T hne
    have k3 := old_some l age (T - 1) hne
    have hTb : 0 ≤ T ∧ T ≤ 1073741824 := by
      obtain ⟨x, _, he, _⟩ := whenT_spec l age hne
      rw [HT.out, he]
      exact later_bd _ _
    have hcT : clamp T = T := clamp_of hTb.1 hTb.2
    rw [← HT.out, ← H1.out] at k1
    rw [← HT.out, hcT] at k2
    rw [← HT.out] at k3
    obtain ⟨p5, hp5⟩ : ∃ m, m = (l.filter (oldR age T)).length := ⟨_, rfl⟩
    obtain ⟨p6, hp6⟩ : ∃ m, m = (l.filter (oldR age (T - 1))).length := ⟨_, rfl⟩
    rw [← hp5] at k2
    rw [← hp6] at k3
    have hp5p : 0 < p5 := by simpa using k2
    have hl6 : p6 ≤ 100 := by rw [hp6]; exact Nat.le_trans (List.length_filter_le _ _) (by rw [HL.out]; omega)
    have hl5 : p5 ≤ 100 := by rw [hp5]; exact Nat.le_trans (List.length_filter_le _ _) (by rw [HL.out]; omega)
    have hp6z : 0 < T → p6 = 0 := by
      intro hT
      have : ¬ T ≤ clamp (T - 1) := by unfold clamp; omega
      rw [decide_eq_false this] at k3
      simp at k3
      omega
    have f1 : ((p5 : Int) == 0) = false := by simp; omega
    have f2 : decide (T < 0) = false := by simp; omega
    have f3 : decide (1073741824 < T) = false := by simp; omega
    have f4 : decide ((0 : Int) < (n1 : Int)) = true := by simp; omega
    have f5 : decide (0 < n1) = true := by simp; omega
    have hTl : 0 ≤ T := hTb.1
    have hTu : T ≤ 1073741824 := hTb.2
    have hk1 : (decide ((0 : Int) < (p1 : Int)) == decide (T ≤ clamp now)) = true := by
      rw [← k1]; simp
    have hk2 : (decide (0 < p1) == decide (T ≤ clamp now)) = true := by rw [← k1]; simp
    have H5 := Lib.hid hp5
    have H6 := Lib.hid hp6
    have HK := Lib.hid k1
    clear hp5 hp6 k1 k2 k3 hcT hne
    go_wp2_with fail
    refine (Old_row _ _ _ l age T _ hl3 (by omega)).mono ?_
    rw [← H5.out]
    rintro e w4 ⟨B5, k5, B6, k6, rfl, _, _, hb4⟩
    have hbw4 := hbw3.trans (hb4.mono hbw3.size)
    have hl4 := (hl.below hbw4).more hbw4.size
    clear hb4 hbw3 hl3
    go_wp2_with fail
    refine (Old_row _ _ _ l age (T - 1) _ hl4 (by omega)).mono ?_
    rw [← H6.out]
    rintro e w5 ⟨B7, k7, B8, k8, rfl, _, _, hb5⟩
    have hbw5 := hbw4.trans (hb5.mono hbw4.size)
    clear hb5 hbw4 hl4
    obtain ⟨u, hu⟩ : ∃ u, u = decide (0 < p1) := ⟨_, rfl⟩
    rw [HK.out] at hu
    have HU := Lib.hid hu
    clear hu
    by_cases hT0 : 0 < T
    · have f6 : decide (0 < T) = true := by simpa using hT0
      obtain rfl : p6 = 0 := hp6z hT0
      clear hp6z
      go_wp2_with (go_at_call 17; refine (rClamp_any _ _).mono ?_; rintro e w' ⟨rfl, rfl⟩)
      refine (wakes21_any _).mono ?_
      rintro e w6 ⟨rfl, hb6⟩
      go_wp2_with fail
      go_ret
      exact ⟨rfl, hbw5.trans (hb6.mono hbw5.size)⟩
    · have f6 : decide (0 < T) = false := by simpa using hT0
      clear hp6z
      go_wp2_with (go_at_call 17; refine (rClamp_any _ _).mono ?_; rintro e w' ⟨rfl, rfl⟩)
      refine (wakes21_any _).mono ?_
      rintro e w6 ⟨rfl, hb6⟩
      go_wp2_with fail
      go_ret
      exact ⟨rfl, hbw5.trans (hb6.mono hbw5.size)⟩

set_option maxRecDepth 100000 in
set_option maxHeartbeats 2000000 in
theorem IdleAges_walk (A1 : Option Addr) (n1 c1 : Nat) (l : List Re) (age now : Int) (w : World)
    (hl : Res w w.heap.size A1 n1 l) (_ : ∀ x ∈ l, okRe x) (hm1 : n1 ≤ 9223372036854775807) (_ : n1 ≤ c1) (hwf : -9223372036854775808 ≤ now ∧ now ≤ 9223372036854775807) :
    Calls Try.prog 4 #[.slice A1 n1 c1, .int .i64 age, .int .i64 now] w fun e w' => e = .returned (.bool true) ∧ Below w.heap.size w w' := by
  by_cases hg : n1 ≤ 100 ∧ 0 ≤ age ∧ age ≤ 1048576 ∧ now ≤ 1099511627776
  · exact IdleAges_in A1 n1 c1 l age now w hl hg.1 hg.2.1 hg.2.2.1 hg.2.2.2 (WalkArith.wf_i64 hwf)
  · by_cases hg1 : (decide (100 < n1) || decide (100 < 0)) = true
    · have G1 := Lib.hid hg1
      clear hg1 hg
      go_enter Try.func4, Try.ntmps4
      go_wp2_with fail
      refine (great21_any _ _ _ _ _ _ _ (by omega) (by omega)).mono ?_
      rw [G1.out]
      rintro e w' ⟨rfl, rfl⟩
      go_wp2_with fail
      refine (wakes21_any _).mono ?_
      rintro e w1 ⟨rfl, hb⟩
      go_wp2_with fail
      go_ret
      exact ⟨rfl, hb⟩
    · rw [Bool.not_eq_true] at hg1
      have G1 := Lib.hid hg1
      rcases (by simp at hg1; omega : age < 0 ∨ (0 ≤ age ∧ 1048576 < age) ∨ (0 ≤ age ∧ age ≤ 1048576 ∧ 1099511627776 < now)) with h | ⟨h, h'⟩ | ⟨h, h', h''⟩
      · have d1 : decide (age < 0) = true := by simpa using h
        clear hg1 hg
        go_enter Try.func4, Try.ntmps4
        go_wp2_with fail
        refine (great21_any _ _ _ _ _ _ _ (by omega) (by omega)).mono ?_
        rw [G1.out]
        rintro e w' ⟨rfl, rfl⟩
        go_wp2_with fail
        refine (wakes21_any _).mono ?_
        rintro e w1 ⟨rfl, hb⟩
        go_wp2_with fail
        go_ret
        exact ⟨rfl, hb⟩
      · have d1 : decide (age < 0) = false := by simpa using h
        have d2 : decide (1048576 < age) = true := by simpa using h'
        clear hg1 hg
        go_enter Try.func4, Try.ntmps4
        go_wp2_with fail
        refine (great21_any _ _ _ _ _ _ _ (by omega) (by omega)).mono ?_
        rw [G1.out]
        rintro e w' ⟨rfl, rfl⟩
        go_wp2_with fail
        refine (wakes21_any _).mono ?_
        rintro e w1 ⟨rfl, hb⟩
        go_wp2_with fail
        go_ret
        exact ⟨rfl, hb⟩
      · have d1 : decide (age < 0) = false := by simpa using h
        have d2 : decide (1048576 < age) = false := by simpa using h'
        have d3 : decide (1099511627776 < now) = true := by simpa using h''
        clear hg1 hg
        go_enter Try.func4, Try.ntmps4
        go_wp2_with fail
        refine (great21_any _ _ _ _ _ _ _ (by omega) (by omega)).mono ?_
        rw [G1.out]
        rintro e w' ⟨rfl, rfl⟩
        go_wp2_with fail
        refine (wakes21_any _).mono ?_
        rintro e w1 ⟨rfl, hb⟩
        go_wp2_with fail
        go_ret
        exact ⟨rfl, hb⟩
end Go.Proofs.Ytepofpbpolenlaa
