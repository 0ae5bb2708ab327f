/-
  The walk of the statement ScarTells. Conditions: none.
-/
import Derived.Test.YtgpijomnnnjgkaaScarWakes
import Derived.Test.YtgpijomnnnjgkaaScarRef5
import Derived.Test.YtgpijomnnnjgkaaOpenSc
namespace Go.Proofs.Ytgpijomnnnjgkaa
open Go.RowKit Go.Shelf

theorem rSame12_same (A1 A2 : Option Addr) (n c1 c2 B1 B2 : Nat) (a : List Sc) (w : World) (ha : Scs w B1 A1 n a) (hb : Scs w B2 A2 n a) (hn : n ≤ 1000) :
    Calls Try.prog 17 #[.slice A1 n c1, .slice A2 n c2] w fun e w' => e = .returned (.bool true) ∧ Below w.heap.size w w' :=
  (rSame12_any A1 A2 n n c1 c2 B1 B2 a a w ha hb (by omega) (by omega)).mono fun e w' ⟨h1, h2⟩ => ⟨by rw [h1]; simp, h2⟩
theorem Great12_anyT (A : Option Addr) (n c : Nat) (w : World) (h : n ≤ 9223372036854775807) : Calls Try.prog 12 #[.slice A n c] w fun e w' => e = .returned (.bool (decide (100 < n))) ∧ w = w' := by
  have d : decide ((100 : Int) < (n : Int)) = decide (100 < n) := by rw [decide_eq_decide]; omega
  have D := Lib.hid d
  clear d
  go_enter Try.func12, Try.ntmps12
  go_wp2_with fail
  go_ret
  exact ⟨ret_bool (by first | exact D.out | rfl | simp), rfl⟩

set_option maxRecDepth 100000 in
set_option maxHeartbeats 4000000 in
theorem ScarTells_in (A1 A2 A3 : Option Addr) (n1 n2 n3 c1 c2 c3 : Nat) (l m : List Sc) (a : List Ad) (age now : Int) (w : World)
    (hl : Scs w w.heap.size A1 n1 l) (hm : Scs w w.heap.size A2 n2 m) (ha : Ads w w.heap.size A3 n3 a) (h1 : n1 ≤ 100) (h2 : n2 ≤ 100) (h3 : n3 ≤ 60) :
    Calls Try.prog 6 #[.slice A1 n1 c1, .slice A2 n2 c2, .slice A3 n3 c3, .int .i64 age, .int .i64 now] w fun e w' => e = .returned (.bool true) ∧ Below w.heap.size w w' := by
  have G1 : Hid (decide (100 < n1) = false) := (by show _ = _; simp; omega)
  have G2 : Hid (decide (100 < n2) = false) := (by show _ = _; simp; omega)
  have G3 : Hid (decide (60 < n3) = false) := (by show _ = _; simp; omega)
  obtain ⟨W, hW⟩ : ∃ W, W = worstL (l.filter (freshR age now)) := ⟨_, rfl⟩
  obtain ⟨q, hq⟩ : ∃ q, q = decide (0 < (l.filter (freshR age now)).length) := ⟨_, rfl⟩
  obtain ⟨q2, hq2⟩ : ∃ q, q = hasB l age now a := ⟨_, rfl⟩
  obtain ⟨q3, hq3⟩ : ∃ q, q = decide (l = m) := ⟨_, rfl⟩
  obtain ⟨R1, hR1⟩ : ∃ R, R = noteL l now a := ⟨_, rfl⟩
  have hR1l : R1.length ≤ 1000 := by rw [hR1]; unfold noteL; rw [lastOnes_len]; have := noteAll_le now a l; rw [hl.1, ha.1] at this; omega
  have hR2l : (healL l a).length ≤ 1000 := Nat.le_trans (healL_le _ _) (by rw [hl.1]; omega)
  have hR3l : (l.filter (freshR age now)).length ≤ 1000 := Nat.le_trans (List.length_filter_le _ _) (by rw [hl.1]; omega)
  have HW := Lib.hid hW
  have HQ := Lib.hid hq
  have HQ2 := Lib.hid hq2
  have HQ3 := Lib.hid hq3
  have HR1 := Lib.hid hR1
  have hE := fun wx => eqAd W W wx
  rw [decide_eq_true rfl] at hE
  unfold valAd at hE
  have b1 : (q == q) = true := by simp
  have b2 : (q2 == q2) = true := by simp
  have b3 : (q3 == q3) = true := by simp
  have hb : Below w.heap.size w w := Below.refl _ _
  clear hW hq hq2 hq3 hR1
  go_enter Try.func6, Try.ntmps6
  go_wp2_with fail
  refine (Great12_anyT _ _ _ _ (by omega)).mono ?_
  rw [G1.out]
  rintro e w' ⟨rfl, rfl⟩
  go_wp2_with fail
  refine (Great12_anyT _ _ _ _ (by omega)).mono ?_
  rw [G2.out]
  rintro e w' ⟨rfl, rfl⟩
  go_wp2_with fail
  refine (Great02_any _ _ _ _ (by omega)).mono ?_
  rw [G3.out]
  rintro e w' ⟨rfl, rfl⟩
  go_wp2_with fail
  refine (Worst_any _ _ _ l age now _ hl (by omega)).mono ?_
  rw [← HW.out, ← HQ.out]
  rintro e wx ⟨rfl, hbx⟩
  replace hl := (hl.below hbx).more hbx.size
  replace hm := (hm.below hbx).more hbx.size
  replace ha := (ha.below hbx).more hbx.size
  replace hb := hb.trans (hbx.mono hb.size)
  unfold valAd
  replace hl := (hl.alloc (Nat.le_refl _) (.cells #[.int .i8 W.1, .int .u16 W.2.1, .int .u16 W.2.2.1, .int .u16 W.2.2.2.1, .int .u16 W.2.2.2.2.1, .int .u16 W.2.2.2.2.2.1, .int .u16 W.2.2.2.2.2.2.1, .int .u16 W.2.2.2.2.2.2.2.1, .int .u16 W.2.2.2.2.2.2.2.2.1, .int .i64 W.2.2.2.2.2.2.2.2.2] 31)).more (B' := (wx.alloc (.cells #[.int .i8 W.1, .int .u16 W.2.1, .int .u16 W.2.2.1, .int .u16 W.2.2.2.1, .int .u16 W.2.2.2.2.1, .int .u16 W.2.2.2.2.2.1, .int .u16 W.2.2.2.2.2.2.1, .int .u16 W.2.2.2.2.2.2.2.1, .int .u16 W.2.2.2.2.2.2.2.2.1, .int .i64 W.2.2.2.2.2.2.2.2.2] 31)).heap.size) (by simp)
  replace hm := (hm.alloc (Nat.le_refl _) (.cells #[.int .i8 W.1, .int .u16 W.2.1, .int .u16 W.2.2.1, .int .u16 W.2.2.2.1, .int .u16 W.2.2.2.2.1, .int .u16 W.2.2.2.2.2.1, .int .u16 W.2.2.2.2.2.2.1, .int .u16 W.2.2.2.2.2.2.2.1, .int .u16 W.2.2.2.2.2.2.2.2.1, .int .i64 W.2.2.2.2.2.2.2.2.2] 31)).more (B' := (wx.alloc (.cells #[.int .i8 W.1, .int .u16 W.2.1, .int .u16 W.2.2.1, .int .u16 W.2.2.2.1, .int .u16 W.2.2.2.2.1, .int .u16 W.2.2.2.2.2.1, .int .u16 W.2.2.2.2.2.2.1, .int .u16 W.2.2.2.2.2.2.2.1, .int .u16 W.2.2.2.2.2.2.2.2.1, .int .i64 W.2.2.2.2.2.2.2.2.2] 31)).heap.size) (by simp)
  replace ha := (ha.alloc (Nat.le_refl _) (.cells #[.int .i8 W.1, .int .u16 W.2.1, .int .u16 W.2.2.1, .int .u16 W.2.2.2.1, .int .u16 W.2.2.2.2.1, .int .u16 W.2.2.2.2.2.1, .int .u16 W.2.2.2.2.2.2.1, .int .u16 W.2.2.2.2.2.2.2.1, .int .u16 W.2.2.2.2.2.2.2.2.1, .int .i64 W.2.2.2.2.2.2.2.2.2] 31)).more (B' := (wx.alloc (.cells #[.int .i8 W.1, .int .u16 W.2.1, .int .u16 W.2.2.1, .int .u16 W.2.2.2.1, .int .u16 W.2.2.2.2.1, .int .u16 W.2.2.2.2.2.1, .int .u16 W.2.2.2.2.2.2.1, .int .u16 W.2.2.2.2.2.2.2.1, .int .u16 W.2.2.2.2.2.2.2.2.1, .int .i64 W.2.2.2.2.2.2.2.2.2] 31)).heap.size) (by simp)
  replace hb := hb.alloc hb.size (.cells #[.int .i8 W.1, .int .u16 W.2.1, .int .u16 W.2.2.1, .int .u16 W.2.2.2.1, .int .u16 W.2.2.2.2.1, .int .u16 W.2.2.2.2.2.1, .int .u16 W.2.2.2.2.2.2.1, .int .u16 W.2.2.2.2.2.2.2.1, .int .u16 W.2.2.2.2.2.2.2.2.1, .int .i64 W.2.2.2.2.2.2.2.2.2] 31)
  have hC1 : (wx.alloc (.cells #[.int .i8 W.1, .int .u16 W.2.1, .int .u16 W.2.2.1, .int .u16 W.2.2.2.1, .int .u16 W.2.2.2.2.1, .int .u16 W.2.2.2.2.2.1, .int .u16 W.2.2.2.2.2.2.1, .int .u16 W.2.2.2.2.2.2.2.1, .int .u16 W.2.2.2.2.2.2.2.2.1, .int .i64 W.2.2.2.2.2.2.2.2.2] 31)).heap[wx.heap.size]? = some (.cells #[.int .i8 W.1, .int .u16 W.2.1, .int .u16 W.2.2.1, .int .u16 W.2.2.2.1, .int .u16 W.2.2.2.2.1, .int .u16 W.2.2.2.2.2.1, .int .u16 W.2.2.2.2.2.2.1, .int .u16 W.2.2.2.2.2.2.2.1, .int .u16 W.2.2.2.2.2.2.2.2.1, .int .i64 W.2.2.2.2.2.2.2.2.2] 31 (0, 0)) := heap_alloc_new wx _
  have l1 : wx.heap.size < (wx.alloc (.cells #[.int .i8 W.1, .int .u16 W.2.1, .int .u16 W.2.2.1, .int .u16 W.2.2.2.1, .int .u16 W.2.2.2.2.1, .int .u16 W.2.2.2.2.2.1, .int .u16 W.2.2.2.2.2.2.1, .int .u16 W.2.2.2.2.2.2.2.1, .int .u16 W.2.2.2.2.2.2.2.2.1, .int .i64 W.2.2.2.2.2.2.2.2.2] 31)).heap.size := by simp
  clear hbx
  go_wp2_with fail
  refine (rWorst_any _ _ _ l age now _ hl (by omega)).mono ?_
  rw [← HW.out, ← HQ.out]
  rintro e wy ⟨rfl, hbx⟩
  unfold valAd
  replace hC1 := (hbx.block _ l1).trans hC1
  replace l1 := Nat.lt_of_lt_of_le l1 hbx.size
  replace hl := (hl.below hbx).more hbx.size
  replace hm := (hm.below hbx).more hbx.size
  replace ha := (ha.below hbx).more hbx.size
  replace hb := hb.trans (hbx.mono hb.size)
  replace hl := (hl.alloc (Nat.le_refl _) (.cells #[.int .i8 W.1, .int .u16 W.2.1, .int .u16 W.2.2.1, .int .u16 W.2.2.2.1, .int .u16 W.2.2.2.2.1, .int .u16 W.2.2.2.2.2.1, .int .u16 W.2.2.2.2.2.2.1, .int .u16 W.2.2.2.2.2.2.2.1, .int .u16 W.2.2.2.2.2.2.2.2.1, .int .i64 W.2.2.2.2.2.2.2.2.2] 31)).more (B' := (wy.alloc (.cells #[.int .i8 W.1, .int .u16 W.2.1, .int .u16 W.2.2.1, .int .u16 W.2.2.2.1, .int .u16 W.2.2.2.2.1, .int .u16 W.2.2.2.2.2.1, .int .u16 W.2.2.2.2.2.2.1, .int .u16 W.2.2.2.2.2.2.2.1, .int .u16 W.2.2.2.2.2.2.2.2.1, .int .i64 W.2.2.2.2.2.2.2.2.2] 31)).heap.size) (by simp)
  replace hm := (hm.alloc (Nat.le_refl _) (.cells #[.int .i8 W.1, .int .u16 W.2.1, .int .u16 W.2.2.1, .int .u16 W.2.2.2.1, .int .u16 W.2.2.2.2.1, .int .u16 W.2.2.2.2.2.1, .int .u16 W.2.2.2.2.2.2.1, .int .u16 W.2.2.2.2.2.2.2.1, .int .u16 W.2.2.2.2.2.2.2.2.1, .int .i64 W.2.2.2.2.2.2.2.2.2] 31)).more (B' := (wy.alloc (.cells #[.int .i8 W.1, .int .u16 W.2.1, .int .u16 W.2.2.1, .int .u16 W.2.2.2.1, .int .u16 W.2.2.2.2.1, .int .u16 W.2.2.2.2.2.1, .int .u16 W.2.2.2.2.2.2.1, .int .u16 W.2.2.2.2.2.2.2.1, .int .u16 W.2.2.2.2.2.2.2.2.1, .int .i64 W.2.2.2.2.2.2.2.2.2] 31)).heap.size) (by simp)
  replace ha := (ha.alloc (Nat.le_refl _) (.cells #[.int .i8 W.1, .int .u16 W.2.1, .int .u16 W.2.2.1, .int .u16 W.2.2.2.1, .int .u16 W.2.2.2.2.1, .int .u16 W.2.2.2.2.2.1, .int .u16 W.2.2.2.2.2.2.1, .int .u16 W.2.2.2.2.2.2.2.1, .int .u16 W.2.2.2.2.2.2.2.2.1, .int .i64 W.2.2.2.2.2.2.2.2.2] 31)).more (B' := (wy.alloc (.cells #[.int .i8 W.1, .int .u16 W.2.1, .int .u16 W.2.2.1, .int .u16 W.2.2.2.1, .int .u16 W.2.2.2.2.1, .int .u16 W.2.2.2.2.2.1, .int .u16 W.2.2.2.2.2.2.1, .int .u16 W.2.2.2.2.2.2.2.1, .int .u16 W.2.2.2.2.2.2.2.2.1, .int .i64 W.2.2.2.2.2.2.2.2.2] 31)).heap.size) (by simp)
  replace hb := hb.alloc hb.size (.cells #[.int .i8 W.1, .int .u16 W.2.1, .int .u16 W.2.2.1, .int .u16 W.2.2.2.1, .int .u16 W.2.2.2.2.1, .int .u16 W.2.2.2.2.2.1, .int .u16 W.2.2.2.2.2.2.1, .int .u16 W.2.2.2.2.2.2.2.1, .int .u16 W.2.2.2.2.2.2.2.2.1, .int .i64 W.2.2.2.2.2.2.2.2.2] 31)
  have hC2 : (wy.alloc (.cells #[.int .i8 W.1, .int .u16 W.2.1, .int .u16 W.2.2.1, .int .u16 W.2.2.2.1, .int .u16 W.2.2.2.2.1, .int .u16 W.2.2.2.2.2.1, .int .u16 W.2.2.2.2.2.2.1, .int .u16 W.2.2.2.2.2.2.2.1, .int .u16 W.2.2.2.2.2.2.2.2.1, .int .i64 W.2.2.2.2.2.2.2.2.2] 31)).heap[wy.heap.size]? = some (.cells #[.int .i8 W.1, .int .u16 W.2.1, .int .u16 W.2.2.1, .int .u16 W.2.2.2.1, .int .u16 W.2.2.2.2.1, .int .u16 W.2.2.2.2.2.1, .int .u16 W.2.2.2.2.2.2.1, .int .u16 W.2.2.2.2.2.2.2.1, .int .u16 W.2.2.2.2.2.2.2.2.1, .int .i64 W.2.2.2.2.2.2.2.2.2] 31 (0, 0)) := heap_alloc_new wy _
  replace hC1 := (Below.heap_alloc wy (.cells #[.int .i8 W.1, .int .u16 W.2.1, .int .u16 W.2.2.1, .int .u16 W.2.2.2.1, .int .u16 W.2.2.2.2.1, .int .u16 W.2.2.2.2.2.1, .int .u16 W.2.2.2.2.2.2.1, .int .u16 W.2.2.2.2.2.2.2.1, .int .u16 W.2.2.2.2.2.2.2.2.1, .int .i64 W.2.2.2.2.2.2.2.2.2] 31) _ l1).trans hC1
  obtain ⟨z0, z1, z2, z3, z4, z5, z6, z7, z8, z9⟩ := ad_cells hC1
  obtain ⟨y0, y1, y2, y3, y4, y5, y6, y7, y8, y9⟩ := ad_cells hC2
  clear hbx
  go_wp2_with fail
  refine (Note_any _ _ _ l now _ _ _ a _ hl ha (by omega)).mono ?_
  rw [← HR1.out]
  rintro e w4 ⟨B4, k4, rfl, r4, _, hbx⟩
  replace hl := (hl.below hbx).more hbx.size
  replace hm := (hm.below hbx).more hbx.size
  replace ha := (ha.below hbx).more hbx.size
  replace hb := hb.trans (hbx.mono hb.size)
  clear hbx z0 z1 z2 z3 z4 z5 z6 z7 z8 z9 y0 y1 y2 y3 y4 y5 y6 y7 y8 y9
  go_wp2_with fail
  refine (rNote_any _ _ _ l now _ _ _ a _ hl ha (by omega)).mono ?_
  rw [← HR1.out]
  rintro e w5 ⟨B5, k5, rfl, r5, _, hbx⟩
  replace hl := (hl.below hbx).more hbx.size
  replace hm := (hm.below hbx).more hbx.size
  replace ha := (ha.below hbx).more hbx.size
  replace hb := hb.trans (hbx.mono hb.size)
  replace r4 := (r4.below hbx).more hbx.size
  clear hbx
  go_wp2_with fail
  refine (rSame12_same _ _ _ _ _ _ _ R1 _ r4 r5 hR1l).mono ?_
  rintro e w6 ⟨rfl, hbx⟩
  replace hl := (hl.below hbx).more hbx.size
  replace hm := (hm.below hbx).more hbx.size
  replace ha := (ha.below hbx).more hbx.size
  replace hb := hb.trans (hbx.mono hb.size)
  clear hbx r4 r5
  go_wp2_with fail
  refine (Heal_any _ _ _ l _ _ _ a _ hl (by omega) ha (by omega)).mono ?_
  rintro e w7 ⟨B7, k7, rfl, o7, hbx⟩
  have r4 := o7.recs
  replace hl := (hl.below hbx).more hbx.size
  replace hm := (hm.below hbx).more hbx.size
  replace ha := (ha.below hbx).more hbx.size
  replace hb := hb.trans (hbx.mono hb.size)
  clear hbx o7
  go_wp2_with fail
  refine (rHeal_any _ _ _ l _ _ _ a _ hl (by omega) ha (by omega)).mono ?_
  rintro e w8 ⟨B8, k8, rfl, o8, hbx⟩
  have r5 := o8.recs
  replace hl := (hl.below hbx).more hbx.size
  replace hm := (hm.below hbx).more hbx.size
  replace ha := (ha.below hbx).more hbx.size
  replace hb := hb.trans (hbx.mono hb.size)
  replace r4 := (r4.below hbx).more hbx.size
  clear hbx o8
  go_wp2_with fail
  refine (rSame12_same _ _ _ _ _ _ _ _ _ r4 r5 hR2l).mono ?_
  rintro e w9 ⟨rfl, hbx⟩
  replace hl := (hl.below hbx).more hbx.size
  replace hm := (hm.below hbx).more hbx.size
  replace ha := (ha.below hbx).more hbx.size
  replace hb := hb.trans (hbx.mono hb.size)
  clear hbx r4 r5
  go_wp2_with fail
  refine (Fresh_any _ _ _ l age now _ hl (by omega)).mono ?_
  rintro e w10 ⟨B10, k10, rfl, o7, hbx⟩
  have r4 := o7.recs
  replace hl := (hl.below hbx).more hbx.size
  replace hm := (hm.below hbx).more hbx.size
  replace ha := (ha.below hbx).more hbx.size
  replace hb := hb.trans (hbx.mono hb.size)
  clear hbx o7
  go_wp2_with fail
  refine (rFresh_any _ _ _ l age now _ hl (by omega)).mono ?_
  rintro e w11 ⟨B11, k11, rfl, o8, hbx⟩
  have r5 := o8.recs
  replace hl := (hl.below hbx).more hbx.size
  replace hm := (hm.below hbx).more hbx.size
  replace ha := (ha.below hbx).more hbx.size
  replace hb := hb.trans (hbx.mono hb.size)
  replace r4 := (r4.below hbx).more hbx.size
  clear hbx o8
  go_wp2_with fail
  refine (rSame12_same _ _ _ _ _ _ _ _ _ r4 r5 hR3l).mono ?_
  rintro e w12 ⟨rfl, hbx⟩
  replace hl := (hl.below hbx).more hbx.size
  replace hm := (hm.below hbx).more hbx.size
  replace ha := (ha.below hbx).more hbx.size
  replace hb := hb.trans (hbx.mono hb.size)
  clear hbx r4 r5
  go_wp2_with fail
  refine (Has_any _ _ _ l age now _ _ _ a _ hl (by omega) ha (by omega)).mono ?_
  rw [← HQ2.out]
  rintro e w13 ⟨rfl, hbx⟩
  replace hl := (hl.below hbx).more hbx.size
  replace hm := (hm.below hbx).more hbx.size
  replace ha := (ha.below hbx).more hbx.size
  replace hb := hb.trans (hbx.mono hb.size)
  clear hbx
  go_wp2_with fail
  refine (rHas_any _ _ _ l age now _ _ _ a _ hl (by omega) ha (by omega)).mono ?_
  rw [← HQ2.out]
  rintro e w14 ⟨rfl, hbx⟩
  replace hl := (hl.below hbx).more hbx.size
  replace hm := (hm.below hbx).more hbx.size
  replace ha := (ha.below hbx).more hbx.size
  replace hb := hb.trans (hbx.mono hb.size)
  clear hbx
  go_wp2_with fail
  refine (SameSc_any _ _ _ _ _ _ l m _ hl hm (by omega) (by omega)).mono ?_
  rw [← HQ3.out]
  rintro e w15 ⟨rfl, hbx⟩
  replace hl := (hl.below hbx).more hbx.size
  replace hm := (hm.below hbx).more hbx.size
  replace ha := (ha.below hbx).more hbx.size
  replace hb := hb.trans (hbx.mono hb.size)
  clear hbx
  go_wp2_with fail
  refine (rSame12_any _ _ _ _ _ _ _ _ l m _ hl hm (by omega) (by omega)).mono ?_
  rw [← HQ3.out]
  rintro e w16 ⟨rfl, hbx⟩
  replace hl := (hl.below hbx).more hbx.size
  replace hm := (hm.below hbx).more hbx.size
  replace ha := (ha.below hbx).more hbx.size
  replace hb := hb.trans (hbx.mono hb.size)
  clear hbx
  go_wp2_with fail
  refine (wakes12_any _).mono ?_
  rintro e w17 ⟨rfl, hbx⟩
  replace hb := hb.trans (hbx.mono hb.size)
  go_wp2_with fail
  go_ret
  exact ⟨rfl, hb⟩
set_option maxRecDepth 100000 in
set_option maxHeartbeats 2000000 in
theorem ScarTells_walk (A1 : Option Addr) (n1 c1 : Nat) (l : List Sc) (A2 : Option Addr) (n2 c2 : Nat) (m : List Sc) (A3 : Option Addr) (n3 c3 : Nat) (a : List Ad) (age now : Int) (w : World)
    (hl : Scs w w.heap.size A1 n1 l) (h1 : n1 ≤ 9223372036854775807) (_o1 : ∀ x ∈ l, okSc x) (_q1 : n1 ≤ c1) (hm : Scs w w.heap.size A2 n2 m) (h2 : n2 ≤ 9223372036854775807) (_o2 : ∀ x ∈ m, okSc x) (_q2 : n2 ≤ c2) (ha : Ads w w.heap.size A3 n3 a) (h3 : n3 ≤ 9223372036854775807) (_o3 : ∀ x ∈ a, okAd x) (_q3 : n3 ≤ c3) :
    Calls Try.prog 6 #[.slice A1 n1 c1, .slice A2 n2 c2, .slice A3 n3 c3, .int .i64 age, .int .i64 now] w fun e w' => e = .returned (.bool true) ∧ Below w.heap.size w w' := by
  cases g1 : decide (100 < n1)
  · cases g2 : decide (100 < n2)
    · cases g3 : decide (60 < n3)
      · exact ScarTells_in A1 A2 A3 n1 n2 n3 c1 c2 c3 l m a age now w hl hm ha (by simpa using g1) (by simpa using g2) (by simpa using g3)
      have G1 := Lib.hid g1
      have G2 := Lib.hid g2
      have G3 := Lib.hid g3
      clear g1 g2 g3
      go_enter Try.func6, Try.ntmps6
      go_wp2_with fail
      refine (Great12_anyT _ _ _ _ h1).mono ?_
      rw [G1.out]
      rintro e w' ⟨rfl, rfl⟩
      go_wp2_with fail
      refine (Great12_anyT _ _ _ _ h2).mono ?_
      rw [G2.out]
      rintro e w' ⟨rfl, rfl⟩
      go_wp2_with fail
      refine (Great02_any _ _ _ _ h3).mono ?_
      rw [G3.out]
      rintro e w' ⟨rfl, rfl⟩
      go_wp2_with fail
      refine (wakes12_any _).mono ?_
      rintro e w4 ⟨rfl, hb4⟩
      go_wp2_with fail
      go_ret
      exact ⟨rfl, hb4⟩
    · have G1 := Lib.hid g1
      have G2 := Lib.hid g2
      clear g1 g2
      go_enter Try.func6, Try.ntmps6
      go_wp2_with fail
      refine (Great12_anyT _ _ _ _ h1).mono ?_
      rw [G1.out]
      rintro e w' ⟨rfl, rfl⟩
      go_wp2_with fail
      refine (Great12_anyT _ _ _ _ h2).mono ?_
      rw [G2.out]
      rintro e w' ⟨rfl, rfl⟩
      go_wp2_with fail
      refine (wakes12_any _).mono ?_
      rintro e w4 ⟨rfl, hb4⟩
      go_wp2_with fail
      go_ret
      exact ⟨rfl, hb4⟩
  · · have G1 := Lib.hid g1
      clear g1
      go_enter Try.func6, Try.ntmps6
      go_wp2_with fail
      refine (Great12_anyT _ _ _ _ h1).mono ?_
      rw [G1.out]
      rintro e w' ⟨rfl, rfl⟩
      go_wp2_with fail
      refine (wakes12_any _).mono ?_
      rintro e w4 ⟨rfl, hb4⟩
      go_wp2_with fail
      go_ret
      exact ⟨rfl, hb4⟩
end Go.Proofs.Ytgpijomnnnjgkaa
