/-
  The walk of the statement PaceBreaks: it returns true and writes nothing that was there. Conditions: none.
-/
import Derived.Test.YtcmgcbkhjdeinaaPaceLaws
namespace Go.Proofs.Ytcmgcbkhjdeinaa
open Go.RowKit

theorem pb_old {at_ later stagger : Int} (h1 : 0 ≤ at_) (h2 : at_ ≤ 1048576) (h3 : 0 ≤ later) (h4 : later ≤ 1048576) (h5 : 0 ≤ stagger) (h6 : stagger ≤ 1048576) : oldB at_ stagger (at_ + later) = decide (stagger ≤ later) := by
  unfold oldB
  rw [clamp_of (t := at_) (by omega) (by omega), clamp_of (t := stagger) (by omega) (by omega), clamp_of (t := at_ + stagger) (by omega) (by omega), clamp_of (t := at_ + later) (by omega) (by omega)]
  exact decide_eq_decide.2 (by omega)
theorem pb1 {at_ later stagger : Int} (h1 : 0 ≤ at_) (h2 : at_ ≤ 1048576) (h3 : 0 ≤ later) (h4 : later ≤ 1048576) (h5 : 0 ≤ stagger) (h6 : stagger ≤ 1048576) : keeps stagger [⟨false, 0, at_⟩, ⟨false, 1, at_ + later⟩] = decide (stagger ≤ later) := by
  have ho := pb_old h1 h2 h3 h4 h5 h6
  have hl : at_ ≤ at_ + later := by omega
  by_cases hq : stagger ≤ later <;> simp [hq] at ho <;> simp [keeps, keepsRun, keepsStep, lateB, ho, hq, hl]
theorem pb2 (at_ later stagger : Int) (h3 : 0 ≤ later) : keeps stagger [⟨false, 0, at_⟩, ⟨true, 0, at_ + later⟩, ⟨false, 1, at_ + later⟩] = true := by
  have hl : at_ ≤ at_ + later := by omega
  simp [keeps, keepsRun, keepsStep, lateB, hl]
theorem pb3 (at_ later stagger : Int) : keeps stagger [⟨false, 1, at_ + later⟩] = false := by simp [keeps, keepsRun, keepsStep]
theorem pb4 (at_ stagger : Int) : keeps stagger [⟨false, 0, at_⟩, ⟨false, 0, at_⟩] = false := by simp [keeps, keepsRun, keepsStep]
theorem pb5 (at_ later stagger : Int) : keeps stagger [⟨false, 0, at_⟩, ⟨true, 0, at_ + later⟩, ⟨true, 0, at_ + later⟩] = false := by simp [keeps, keepsRun, keepsStep]
theorem pb6 (at_ later stagger : Int) : keeps stagger [⟨true, 0, at_ + later⟩] = false := by simp [keeps, keepsRun, keepsStep]
theorem pb8 (at_ later : Int) : keeps 0 [⟨true, 0, at_ + later⟩, ⟨false, 0, at_⟩] = false := by simp [keeps, keepsRun, keepsStep]
theorem pb7 (stagger : Int) : keeps stagger [] = true := rfl

theorem pcs_ok {x : Pc} (h : x.n = 0 ∨ x.n = 1) : (Lit.int .i64 x.n).wf = true := by
  rcases h with h | h <;> rw [h] <;> decide

set_option maxRecDepth 100000 in
set_option maxHeartbeats 2000000 in
theorem PaceBreaks_in (at_ later stagger : Int) (w : World) (h1 : 0 ≤ at_) (h2 : at_ ≤ 1048576) (h3 : 0 ≤ later) (h4 : later ≤ 1048576) (h5 : 0 ≤ stagger) (h6 : stagger ≤ 1048576) :
    Calls Try.prog 3 #[.int .i64 at_, .int .i64 later, .int .i64 stagger] w fun e w' => e = .returned (.bool true) ∧ Below w.heap.size w w' := by
  have d1 : decide (at_ < 0) = false := by simp; omega
  have d2 : decide (1048576 < at_) = false := by simp; omega
  have d3 : decide (later < 0) = false := by simp; omega
  have d4 : decide (1048576 < later) = false := by simp; omega
  have d5 : decide (stagger < 0) = false := by simp; omega
  have d6 : decide (1048576 < stagger) = false := by simp; omega
  have e1 := pb1 h1 h2 h3 h4 h5 h6
  have e2 := pb2 at_ later stagger h3
  have e3 := pb3 at_ later stagger
  have e4 := pb4 at_ stagger
  have e5 := pb5 at_ later stagger
  have e6 := pb6 at_ later stagger
  have e7 := pb7 stagger
  have e8 := pb8 at_ later
  rcases (by omega : later = 0 ∨ later ≠ 0) with h0 | h0
  · have hz : (later == 0) = true := by simpa using h0
    have H0 := Lib.hid h0
    clear h0
    go_enter Try.func3, Try.ntmps3
    go_wp2_with fail
    refine (Keeps_any stagger _ _ _ _ _ _ (Pcs.new2 _ _ (by simp) ⟨false, 0, at_⟩ ⟨false, 1, at_ + later⟩ _) (by simp) (by omega) (by intro x hx; simp at hx; rcases hx with rfl | rfl <;> exact pcs_ok (by simp))).mono ?_
    rintro e w1 ⟨rfl, hb1⟩
    have ka := ((((Pc3.new_at w _ rfl ⟨false, 0, at_⟩ _).alloc _).alloc _).alloc _).below hb1
    have kb := (((Pc3.new_at (w.alloc _) (w.heap.size + 1) (by simp) ⟨false, 1, at_ + later⟩ _).alloc _).alloc _).below hb1
    have kf := ((Pc3.new_at ((w.alloc _).alloc _) (w.heap.size + 1 + 1) (by simp) ⟨true, 0, at_ + later⟩ _).alloc _).below hb1
    have hbw1 : Below w.heap.size w w1 := Below.trans (b := ((((w.alloc _).alloc _).alloc _).alloc _)) (((((Below.refl _ _).alloc (Nat.le_refl _) _).alloc (by simp) _).alloc (by simp; omega) _).alloc (by simp; omega) _) (hb1.mono (by simp; omega))
    clear hb1
    obtain ⟨a0, a1, a2, ax⟩ := ka
    obtain ⟨b0, b1, b2, bx⟩ := kb
    obtain ⟨f0, f1, f2, fx⟩ := kf
    go_wp2_with fail
    refine (Keeps_any stagger _ _ _ _ _ _ (Pcs.new3 _ _ (by simp) ⟨false, 0, at_⟩ ⟨true, 0, at_ + later⟩ ⟨false, 1, at_ + later⟩ _) (by simp) (by omega) (by intro x hx; simp at hx; rcases hx with rfl | rfl | rfl <;> exact pcs_ok (by simp))).mono ?_
    rintro e w2 ⟨rfl, hb2⟩
    have ka := (Pc3.alloc (x := ⟨false, 0, at_⟩) ⟨a0, a1, a2, ax⟩ _).below hb2
    have kb := (Pc3.alloc (x := ⟨false, 1, at_ + later⟩) ⟨b0, b1, b2, bx⟩ _).below hb2
    have kf := (Pc3.alloc (x := ⟨true, 0, at_ + later⟩) ⟨f0, f1, f2, fx⟩ _).below hb2
    have hbw2 := (hbw1.alloc hbw1.size _).trans (hb2.mono (by have := hbw1.size; simp; omega))
    clear hb2 hbw1 a0 a1 a2 ax b0 b1 b2 bx f0 f1 f2 fx
    obtain ⟨a0, a1, a2, ax⟩ := ka
    obtain ⟨b0, b1, b2, bx⟩ := kb
    obtain ⟨f0, f1, f2, fx⟩ := kf
    go_wp2_with fail
    refine (Keeps_any stagger _ _ _ _ _ _ (Pcs.new1 _ _ (by simp) ⟨false, 1, at_ + later⟩ _) (by simp) (by omega) (by intro x hx; simp at hx; subst hx; exact pcs_ok (by simp))).mono ?_
    rintro e w3 ⟨rfl, hb3⟩
    have ka := (Pc3.alloc (x := ⟨false, 0, at_⟩) ⟨a0, a1, a2, ax⟩ _).below hb3
    have kb := (Pc3.alloc (x := ⟨false, 1, at_ + later⟩) ⟨b0, b1, b2, bx⟩ _).below hb3
    have kf := (Pc3.alloc (x := ⟨true, 0, at_ + later⟩) ⟨f0, f1, f2, fx⟩ _).below hb3
    have hbw3 := (hbw2.alloc hbw2.size _).trans (hb3.mono (by have := hbw2.size; simp; omega))
    clear hb3 hbw2 a0 a1 a2 ax b0 b1 b2 bx f0 f1 f2 fx
    obtain ⟨a0, a1, a2, ax⟩ := ka
    obtain ⟨b0, b1, b2, bx⟩ := kb
    obtain ⟨f0, f1, f2, fx⟩ := kf
    go_wp2_with fail
    refine (Keeps_any stagger _ _ _ _ _ _ (Pcs.new2 _ _ (by simp) ⟨false, 0, at_⟩ ⟨false, 0, at_⟩ _) (by simp) (by omega) (by intro x hx; simp at hx; subst hx; exact pcs_ok (by simp))).mono ?_
    rintro e w4 ⟨rfl, hb4⟩
    have ka := (Pc3.alloc (x := ⟨false, 0, at_⟩) ⟨a0, a1, a2, ax⟩ _).below hb4
    have kb := (Pc3.alloc (x := ⟨false, 1, at_ + later⟩) ⟨b0, b1, b2, bx⟩ _).below hb4
    have kf := (Pc3.alloc (x := ⟨true, 0, at_ + later⟩) ⟨f0, f1, f2, fx⟩ _).below hb4
    have hbw4 := (hbw3.alloc hbw3.size _).trans (hb4.mono (by have := hbw3.size; simp; omega))
    clear hb4 hbw3 a0 a1 a2 ax b0 b1 b2 bx f0 f1 f2 fx
    obtain ⟨a0, a1, a2, ax⟩ := ka
    obtain ⟨b0, b1, b2, bx⟩ := kb
    obtain ⟨f0, f1, f2, fx⟩ := kf
    go_wp2_with fail
    refine (Keeps_any stagger _ _ _ _ _ _ (Pcs.new3 _ _ (by simp) ⟨false, 0, at_⟩ ⟨true, 0, at_ + later⟩ ⟨true, 0, at_ + later⟩ _) (by simp) (by omega) (by intro x hx; simp at hx; rcases hx with rfl | rfl <;> exact pcs_ok (by simp))).mono ?_
    rintro e w5 ⟨rfl, hb5⟩
    have ka := (Pc3.alloc (x := ⟨false, 0, at_⟩) ⟨a0, a1, a2, ax⟩ _).below hb5
    have kb := (Pc3.alloc (x := ⟨false, 1, at_ + later⟩) ⟨b0, b1, b2, bx⟩ _).below hb5
    have kf := (Pc3.alloc (x := ⟨true, 0, at_ + later⟩) ⟨f0, f1, f2, fx⟩ _).below hb5
    have hbw5 := (hbw4.alloc hbw4.size _).trans (hb5.mono (by have := hbw4.size; simp; omega))
    clear hb5 hbw4 a0 a1 a2 ax b0 b1 b2 bx f0 f1 f2 fx
    obtain ⟨a0, a1, a2, ax⟩ := ka
    obtain ⟨b0, b1, b2, bx⟩ := kb
    obtain ⟨f0, f1, f2, fx⟩ := kf
    go_wp2_with fail
    refine (Keeps_any stagger _ _ _ _ _ _ (Pcs.new1 _ _ (by simp) ⟨true, 0, at_ + later⟩ _) (by simp) (by omega) (by intro x hx; simp at hx; subst hx; exact pcs_ok (by simp))).mono ?_
    rintro e w6 ⟨rfl, hb6⟩
    have ka := (Pc3.alloc (x := ⟨false, 0, at_⟩) ⟨a0, a1, a2, ax⟩ _).below hb6
    have kb := (Pc3.alloc (x := ⟨false, 1, at_ + later⟩) ⟨b0, b1, b2, bx⟩ _).below hb6
    have kf := (Pc3.alloc (x := ⟨true, 0, at_ + later⟩) ⟨f0, f1, f2, fx⟩ _).below hb6
    have hbw6 := (hbw5.alloc hbw5.size _).trans (hb6.mono (by have := hbw5.size; simp; omega))
    clear hb6 hbw5 a0 a1 a2 ax b0 b1 b2 bx f0 f1 f2 fx
    obtain ⟨a0, a1, a2, ax⟩ := ka
    obtain ⟨b0, b1, b2, bx⟩ := kb
    obtain ⟨f0, f1, f2, fx⟩ := kf
    go_wp2_with fail
    refine (Keeps_any stagger _ _ _ 0 _ _ (Recs.nil_ _ _ _) (by simp) (by omega) (by simp)).mono ?_
    rintro e w7 ⟨rfl, hb7⟩
    have ka := (show Pc3 _ _ ⟨false, 0, at_⟩ from ⟨a0, a1, a2, ax⟩).below hb7
    have kb := (show Pc3 _ _ ⟨false, 1, at_ + later⟩ from ⟨b0, b1, b2, bx⟩).below hb7
    have kf := (show Pc3 _ _ ⟨true, 0, at_ + later⟩ from ⟨f0, f1, f2, fx⟩).below hb7
    have hbw7 := hbw6.trans (hb7.mono hbw6.size)
    clear hb7 hbw6 a0 a1 a2 ax b0 b1 b2 bx f0 f1 f2 fx
    obtain ⟨a0, a1, a2, ax⟩ := ka
    obtain ⟨b0, b1, b2, bx⟩ := kb
    obtain ⟨f0, f1, f2, fx⟩ := kf
    go_wp2_with fail
    refine (wakes14_any _).mono ?_
    rintro e w8 ⟨rfl, hb8⟩
    go_wp2_with fail
    go_ret
    exact ⟨rfl, hbw7.trans (hb8.mono hbw7.size)⟩
  · have hz : (later == 0) = false := by simpa using h0
    have H0 := Lib.hid h0
    clear h0
    go_enter Try.func3, Try.ntmps3
    go_wp2_with fail
    refine (Keeps_any stagger _ _ _ _ _ _ (Pcs.new2 _ _ (by simp) ⟨false, 0, at_⟩ ⟨false, 1, at_ + later⟩ _) (by simp) (by omega) (by intro x hx; simp at hx; rcases hx with rfl | rfl <;> exact pcs_ok (by simp))).mono ?_
    rintro e w1 ⟨rfl, hb1⟩
    have ka := ((((Pc3.new_at w _ rfl ⟨false, 0, at_⟩ _).alloc _).alloc _).alloc _).below hb1
    have kb := (((Pc3.new_at (w.alloc _) (w.heap.size + 1) (by simp) ⟨false, 1, at_ + later⟩ _).alloc _).alloc _).below hb1
    have kf := ((Pc3.new_at ((w.alloc _).alloc _) (w.heap.size + 1 + 1) (by simp) ⟨true, 0, at_ + later⟩ _).alloc _).below hb1
    have hbw1 : Below w.heap.size w w1 := Below.trans (b := ((((w.alloc _).alloc _).alloc _).alloc _)) (((((Below.refl _ _).alloc (Nat.le_refl _) _).alloc (by simp) _).alloc (by simp; omega) _).alloc (by simp; omega) _) (hb1.mono (by simp; omega))
    clear hb1
    obtain ⟨a0, a1, a2, ax⟩ := ka
    obtain ⟨b0, b1, b2, bx⟩ := kb
    obtain ⟨f0, f1, f2, fx⟩ := kf
    go_wp2_with fail
    refine (Keeps_any stagger _ _ _ _ _ _ (Pcs.new3 _ _ (by simp) ⟨false, 0, at_⟩ ⟨true, 0, at_ + later⟩ ⟨false, 1, at_ + later⟩ _) (by simp) (by omega) (by intro x hx; simp at hx; rcases hx with rfl | rfl | rfl <;> exact pcs_ok (by simp))).mono ?_
    rintro e w2 ⟨rfl, hb2⟩
    have ka := (Pc3.alloc (x := ⟨false, 0, at_⟩) ⟨a0, a1, a2, ax⟩ _).below hb2
    have kb := (Pc3.alloc (x := ⟨false, 1, at_ + later⟩) ⟨b0, b1, b2, bx⟩ _).below hb2
    have kf := (Pc3.alloc (x := ⟨true, 0, at_ + later⟩) ⟨f0, f1, f2, fx⟩ _).below hb2
    have hbw2 := (hbw1.alloc hbw1.size _).trans (hb2.mono (by have := hbw1.size; simp; omega))
    clear hb2 hbw1 a0 a1 a2 ax b0 b1 b2 bx f0 f1 f2 fx
    obtain ⟨a0, a1, a2, ax⟩ := ka
    obtain ⟨b0, b1, b2, bx⟩ := kb
    obtain ⟨f0, f1, f2, fx⟩ := kf
    go_wp2_with fail
    refine (Keeps_any stagger _ _ _ _ _ _ (Pcs.new1 _ _ (by simp) ⟨false, 1, at_ + later⟩ _) (by simp) (by omega) (by intro x hx; simp at hx; subst hx; exact pcs_ok (by simp))).mono ?_
    rintro e w3 ⟨rfl, hb3⟩
    have ka := (Pc3.alloc (x := ⟨false, 0, at_⟩) ⟨a0, a1, a2, ax⟩ _).below hb3
    have kb := (Pc3.alloc (x := ⟨false, 1, at_ + later⟩) ⟨b0, b1, b2, bx⟩ _).below hb3
    have kf := (Pc3.alloc (x := ⟨true, 0, at_ + later⟩) ⟨f0, f1, f2, fx⟩ _).below hb3
    have hbw3 := (hbw2.alloc hbw2.size _).trans (hb3.mono (by have := hbw2.size; simp; omega))
    clear hb3 hbw2 a0 a1 a2 ax b0 b1 b2 bx f0 f1 f2 fx
    obtain ⟨a0, a1, a2, ax⟩ := ka
    obtain ⟨b0, b1, b2, bx⟩ := kb
    obtain ⟨f0, f1, f2, fx⟩ := kf
    go_wp2_with fail
    refine (Keeps_any stagger _ _ _ _ _ _ (Pcs.new2 _ _ (by simp) ⟨false, 0, at_⟩ ⟨false, 0, at_⟩ _) (by simp) (by omega) (by intro x hx; simp at hx; subst hx; exact pcs_ok (by simp))).mono ?_
    rintro e w4 ⟨rfl, hb4⟩
    have ka := (Pc3.alloc (x := ⟨false, 0, at_⟩) ⟨a0, a1, a2, ax⟩ _).below hb4
    have kb := (Pc3.alloc (x := ⟨false, 1, at_ + later⟩) ⟨b0, b1, b2, bx⟩ _).below hb4
    have kf := (Pc3.alloc (x := ⟨true, 0, at_ + later⟩) ⟨f0, f1, f2, fx⟩ _).below hb4
    have hbw4 := (hbw3.alloc hbw3.size _).trans (hb4.mono (by have := hbw3.size; simp; omega))
    clear hb4 hbw3 a0 a1 a2 ax b0 b1 b2 bx f0 f1 f2 fx
    obtain ⟨a0, a1, a2, ax⟩ := ka
    obtain ⟨b0, b1, b2, bx⟩ := kb
    obtain ⟨f0, f1, f2, fx⟩ := kf
    go_wp2_with fail
    refine (Keeps_any stagger _ _ _ _ _ _ (Pcs.new3 _ _ (by simp) ⟨false, 0, at_⟩ ⟨true, 0, at_ + later⟩ ⟨true, 0, at_ + later⟩ _) (by simp) (by omega) (by intro x hx; simp at hx; rcases hx with rfl | rfl <;> exact pcs_ok (by simp))).mono ?_
    rintro e w5 ⟨rfl, hb5⟩
    have ka := (Pc3.alloc (x := ⟨false, 0, at_⟩) ⟨a0, a1, a2, ax⟩ _).below hb5
    have kb := (Pc3.alloc (x := ⟨false, 1, at_ + later⟩) ⟨b0, b1, b2, bx⟩ _).below hb5
    have kf := (Pc3.alloc (x := ⟨true, 0, at_ + later⟩) ⟨f0, f1, f2, fx⟩ _).below hb5
    have hbw5 := (hbw4.alloc hbw4.size _).trans (hb5.mono (by have := hbw4.size; simp; omega))
    clear hb5 hbw4 a0 a1 a2 ax b0 b1 b2 bx f0 f1 f2 fx
    obtain ⟨a0, a1, a2, ax⟩ := ka
    obtain ⟨b0, b1, b2, bx⟩ := kb
    obtain ⟨f0, f1, f2, fx⟩ := kf
    go_wp2_with fail
    refine (Keeps_any stagger _ _ _ _ _ _ (Pcs.new1 _ _ (by simp) ⟨true, 0, at_ + later⟩ _) (by simp) (by omega) (by intro x hx; simp at hx; subst hx; exact pcs_ok (by simp))).mono ?_
    rintro e w6 ⟨rfl, hb6⟩
    have ka := (Pc3.alloc (x := ⟨false, 0, at_⟩) ⟨a0, a1, a2, ax⟩ _).below hb6
    have kb := (Pc3.alloc (x := ⟨false, 1, at_ + later⟩) ⟨b0, b1, b2, bx⟩ _).below hb6
    have kf := (Pc3.alloc (x := ⟨true, 0, at_ + later⟩) ⟨f0, f1, f2, fx⟩ _).below hb6
    have hbw6 := (hbw5.alloc hbw5.size _).trans (hb6.mono (by have := hbw5.size; simp; omega))
    clear hb6 hbw5 a0 a1 a2 ax b0 b1 b2 bx f0 f1 f2 fx
    obtain ⟨a0, a1, a2, ax⟩ := ka
    obtain ⟨b0, b1, b2, bx⟩ := kb
    obtain ⟨f0, f1, f2, fx⟩ := kf
    go_wp2_with fail
    refine (Keeps_any stagger _ _ _ 0 _ _ (Recs.nil_ _ _ _) (by simp) (by omega) (by simp)).mono ?_
    rintro e w7 ⟨rfl, hb7⟩
    have ka := (show Pc3 _ _ ⟨false, 0, at_⟩ from ⟨a0, a1, a2, ax⟩).below hb7
    have kb := (show Pc3 _ _ ⟨false, 1, at_ + later⟩ from ⟨b0, b1, b2, bx⟩).below hb7
    have kf := (show Pc3 _ _ ⟨true, 0, at_ + later⟩ from ⟨f0, f1, f2, fx⟩).below hb7
    have hbw7 := hbw6.trans (hb7.mono hbw6.size)
    clear hb7 hbw6 a0 a1 a2 ax b0 b1 b2 bx f0 f1 f2 fx
    obtain ⟨a0, a1, a2, ax⟩ := ka
    obtain ⟨b0, b1, b2, bx⟩ := kb
    obtain ⟨f0, f1, f2, fx⟩ := kf
    go_wp2_with fail
    refine (Keeps_any 0 _ _ _ _ _ _ (Pcs.new2 _ _ (by simp) ⟨true, 0, at_ + later⟩ ⟨false, 0, at_⟩ _) (by simp) (by omega) (by intro x hx; simp at hx; rcases hx with rfl | rfl <;> exact pcs_ok (by simp))).mono ?_
    rintro e w8 ⟨rfl, hb8⟩
    have hbw8 := (hbw7.alloc hbw7.size _).trans (hb8.mono (by have := hbw7.size; simp; omega))
    go_wp2_with fail
    refine (wakes14_any _).mono ?_
    rintro e w9 ⟨rfl, hb9⟩
    go_wp2_with fail
    go_ret
    exact ⟨rfl, hbw8.trans (hb9.mono hbw8.size)⟩

theorem PaceBreaks_walk (at_ later stagger : Int) (w : World) :
    Calls Try.prog 3 #[.int .i64 at_, .int .i64 later, .int .i64 stagger] w fun e w' => e = .returned (.bool true) ∧ Below w.heap.size w w' := by
  rcases (by omega : at_ < 0 ∨ (0 ≤ at_ ∧ 1048576 < at_) ∨ (0 ≤ at_ ∧ at_ ≤ 1048576 ∧ later < 0) ∨ (0 ≤ at_ ∧ at_ ≤ 1048576 ∧ 0 ≤ later ∧ 1048576 < later) ∨ (0 ≤ at_ ∧ at_ ≤ 1048576 ∧ 0 ≤ later ∧ later ≤ 1048576 ∧ stagger < 0) ∨
      (0 ≤ at_ ∧ at_ ≤ 1048576 ∧ 0 ≤ later ∧ later ≤ 1048576 ∧ 0 ≤ stagger ∧ 1048576 < stagger) ∨ (0 ≤ at_ ∧ at_ ≤ 1048576 ∧ 0 ≤ later ∧ later ≤ 1048576 ∧ 0 ≤ stagger ∧ stagger ≤ 1048576)) with
    h1 | ⟨h1, h2⟩ | ⟨h1, h2, h3⟩ | ⟨h1, h2, h3, h4⟩ | ⟨h1, h2, h3, h4, h5⟩ | ⟨h1, h2, h3, h4, h5, h6⟩ | ⟨h1, h2, h3, h4, h5, h6⟩
  · have d1 : decide (at_ < 0) = true := by simp; omega
    go_enter Try.func3, Try.ntmps3
    go_wp2_with (go_at_call 7; refine (wakes14_any _).mono ?_; rintro e w' ⟨rfl, hb⟩)
    go_ret
    exact ⟨rfl, hb⟩
  · have d1 : decide (at_ < 0) = false := by simp; omega
    have d2 : decide (1048576 < at_) = true := by simp; omega
    go_enter Try.func3, Try.ntmps3
    go_wp2_with (go_at_call 7; refine (wakes14_any _).mono ?_; rintro e w' ⟨rfl, hb⟩)
    go_ret
    exact ⟨rfl, hb⟩
  · have d1 : decide (at_ < 0) = false := by simp; omega
    have d2 : decide (1048576 < at_) = false := by simp; omega
    have d3 : decide (later < 0) = true := by simp; omega
    go_enter Try.func3, Try.ntmps3
    go_wp2_with (go_at_call 7; refine (wakes14_any _).mono ?_; rintro e w' ⟨rfl, hb⟩)
    go_ret
    exact ⟨rfl, hb⟩
  · have d1 : decide (at_ < 0) = false := by simp; omega
    have d2 : decide (1048576 < at_) = false := by simp; omega
    have d3 : decide (later < 0) = false := by simp; omega
    have d4 : decide (1048576 < later) = true := by simp; omega
    go_enter Try.func3, Try.ntmps3
    go_wp2_with (go_at_call 7; refine (wakes14_any _).mono ?_; rintro e w' ⟨rfl, hb⟩)
    go_ret
    exact ⟨rfl, hb⟩
  · have d1 : decide (at_ < 0) = false := by simp; omega
    have d2 : decide (1048576 < at_) = false := by simp; omega
    have d3 : decide (later < 0) = false := by simp; omega
    have d4 : decide (1048576 < later) = false := by simp; omega
    have d5 : decide (stagger < 0) = true := by simp; omega
    go_enter Try.func3, Try.ntmps3
    go_wp2_with (go_at_call 7; refine (wakes14_any _).mono ?_; rintro e w' ⟨rfl, hb⟩)
    go_ret
    exact ⟨rfl, hb⟩
  · have d1 : decide (at_ < 0) = false := by simp; omega
    have d2 : decide (1048576 < at_) = false := by simp; omega
    have d3 : decide (later < 0) = false := by simp; omega
    have d4 : decide (1048576 < later) = false := by simp; omega
    have d5 : decide (stagger < 0) = false := by simp; omega
    have d6 : decide (1048576 < stagger) = true := by simp; omega
    go_enter Try.func3, Try.ntmps3
    go_wp2_with (go_at_call 7; refine (wakes14_any _).mono ?_; rintro e w' ⟨rfl, hb⟩)
    go_ret
    exact ⟨rfl, hb⟩
  · exact PaceBreaks_in at_ later stagger w h1 h2 h3 h4 h5 h6
end Go.Proofs.Ytcmgcbkhjdeinaa
