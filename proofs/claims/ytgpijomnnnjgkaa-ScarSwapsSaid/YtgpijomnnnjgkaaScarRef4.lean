/-
  What Has of switchboardref12 computes, and when addresses are too many. Conditions: the slices read as lists of at most 1000.
-/
import Derived.Test.YtgpijomnnnjgkaaScarRef3
namespace Go.Proofs.Ytgpijomnnnjgkaa
open Go.RowKit Go.Shelf

theorem heal_same (F : List Sc) (y : Ad) : decide ((healL F [y]).length = F.length) = !F.any (isAt y) := by
  rw [Bool.eq_iff_iff, decide_eq_true_iff]
  unfold healL
  rw [List.length_filter_eq_length_iff]
  simp only [Bool.not_eq_true', List.any_eq_false]
  constructor
  · intro h x hx
    have := h x hx
    rw [healR_one] at this
    simpa [isAt] using this
  · intro h x hx
    rw [healR_one]
    have := h x hx
    simpa [isAt] using this
set_option maxRecDepth 100000 in
set_option maxHeartbeats 3000000 in
theorem rHas_any (A : Option Addr) (n c : Nat) (l : List Sc) (long now : Int) (As : Option Addr) (ns cs : Nat) (ls : List Ad) (w : World) (hl : Scs w w.heap.size A n l) (hn : n ≤ 1000) (hs : Ads w w.heap.size As ns ls) (hns : ns ≤ 1000) :
    Calls Try.prog 21 #[.slice A n c, .int .i64 long, .int .i64 now, .slice As ns cs] w fun e w' => e = .returned (.bool (hasB l long now ls)) ∧ Below w.heap.size w w' := by
  have HS := Lib.hid hs.1
  obtain ⟨F, hF⟩ : ∃ F, F = l.filter (freshR long now) := ⟨_, rfl⟩
  have hFl : F.length ≤ 1000 := by rw [hF]; exact Nat.le_trans (List.length_filter_le _ _) (by rw [hl.1]; exact hn)
  have HFF := Lib.hid hF
  clear hF
  go_enter Try.func21, Try.ntmps21
  go_wp2_with fail
  refine (rFresh_any A n c l long now _ hl hn).mono ?_
  rw [← HFF.out]
  rintro e w1 ⟨A1, c1, rfl, ho1, hb1⟩
  have r1 := ho1.recs
  clear ho1
  obtain ⟨m, hm⟩ : ∃ m, F.length = m := ⟨_, rfl⟩
  rw [hm] at r1 hFl
  rw [hm]
  have HM := Lib.hid hm
  clear hm
  go_wp2_with fail
  go_loopw [10] (fun s10 wr => ∃ k : Nat, k ≤ ns ∧ s10 = .int .i64 k ∧ Hid ((ls.take k).all (fun y => F.any (isAt y)) = true) ∧ Below w1.heap.size w1 wr) (fun s10 _ => ns - (intOf s10).toNat)
  case atStart => exact ⟨0, Nat.zero_le _, rfl, by show _ = _; simp, Below.refl _ _⟩
  case round =>
    obtain ⟨k, hk, rfl, hno, hb⟩ := hrel
    have hbw := hb1.trans (hb.mono hb1.size)
    by_cases hlt : k < ns
    · obtain ⟨b, off, y, rfl, hbb, hy, hc0, hc1, hc2, hc3, hc4, hc5, hc6, hc7, hc8, hc9⟩ := Ads.cells (hs.below hbw) hlt
      have hno2 : Hid ((ls.take (k + 1)).all (fun y => F.any (isAt y)) = F.any (isAt y)) := by
        show _ = _
        rw [take_succ_of hy.out, List.all_append, hno.out]
        simp
      have hcall := without_any A1 m c1 F y wr ((r1.below hb).more hb.size) hFl
      obtain ⟨q, hq⟩ : ∃ q, (healL F [y]).length = q := ⟨_, rfl⟩
      rw [hq] at hcall
      have hsame := heal_same F y
      rw [hq, HM.out] at hsame
      have hle : q ≤ m := by rw [← hq, ← HM.out]; exact healL_le _ _
      have HQ := Lib.hid hq
      clear hq
      cases hp : F.any (isAt y)
      · rw [hp] at hsame
        have hqm : q = m := by simpa using hsame
        subst hqm
        have hfin : hasB l long now ls = false := by
          unfold hasB
          rw [← HFF.out]
          have h1 := hno2.out
          rw [hp] at h1
          rw [Bool.eq_false_iff]
          intro h2
          rw [List.all_eq_true] at h2
          have : (ls.take (k + 1)).all (fun y => F.any (isAt y)) = true := List.all_eq_true.2 fun z hz => h2 z (List.mem_of_mem_take hz)
          rw [this] at h1
          cases h1
        have HFIN := Lib.hid hfin
        have e1 : ((q : Int) == (q : Int)) = true := by simp
        clear hfin hp hsame
        go_wp2_with fail
        refine hcall.mono ?_
        rintro e w3 ⟨A3, c3, rfl, _, hb3⟩
        have hbw3 := hbw.trans (hb3.mono hbw.size)
        clear hcall hb3
        go_wp2_with fail
        go_ret
        exact ⟨ret_bool HFIN.out.symm, hbw3⟩
      · rw [hp] at hsame
        have hqm : ¬ q = m := by simpa using hsame
        have hno3 : Hid ((ls.take (k + 1)).all (fun y => F.any (isAt y)) = true) := by show _ = _; rw [hno2.out, hp]
        have e1 : ((q : Int) == (m : Int)) = false := by simp; omega
        clear hp hsame
        go_wp2_with fail
        refine hcall.mono ?_
        rintro e w3 ⟨A3, c3, rfl, _, hb3⟩
        have hb4 := hb.trans (hb3.mono hb.size)
        clear hcall hb3
        go_wp2_with fail
        go_roundw
        case rel => exact ⟨k + 1, by omega, by go_num, hno3, hb4⟩
        case measure => simp [intOf]; omega
    · have hfin : hasB l long now ls = true := by
        have := hno.out
        rw [List.take_of_length_le (by rw [HS.out]; omega)] at this
        unfold hasB
        rw [← HFF.out]
        exact this
      have HFIN := Lib.hid hfin
      clear hfin
      go_wp2_with fail
      go_ret
      exact ⟨ret_bool HFIN.out.symm, hbw⟩
theorem Great02_any (A : Option Addr) (n c : Nat) (w : World) (h : n ≤ 9223372036854775807) : Calls Try.prog 8 #[.slice A n c] w fun e w' => e = .returned (.bool (decide (60 < n))) ∧ w = w' := by
  have d : decide ((60 : Int) < (n : Int)) = decide (60 < n) := by rw [decide_eq_decide]; omega
  have D := Lib.hid d
  clear d
  go_enter Try.func8, Try.ntmps8
  go_wp2_with fail
  go_ret
  exact ⟨ret_bool (by first | exact D.out | rfl | simp), rfl⟩
end Go.Proofs.Ytgpijomnnnjgkaa
