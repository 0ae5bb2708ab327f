/-
  The document's example of chapter 18 is told true. Conditions: none.
-/
import Derived.Test.YtfahmfaakjnpcaaNmWakes
namespace Go.Proofs.Ytfahmfaakjnpcaa
set_option linter.unusedVariables false
set_option linter.unusedSimpArgs false
open Go.RowKit Go.Shelf

theorem ok0 : OkN n0 := ⟨by decide, by decide, by simp [n0]⟩
theorem ok1 : OkN n1 := ⟨by decide, by decide, by simp [n1]⟩
theorem ok2 : OkN n2 := ⟨by decide, by decide, by simp [n2]⟩
theorem ok3 : OkN n3 := ⟨by show (learnN n2 sA sRow 0 1).length ≤ 500; rw [wk_learn]; decide, by decide, by simp [n3]⟩
theorem LtAt.setF {w : World} {g : Nat} {m : Lt} (h : LtAt w g m) (v : Int) : LtAt (w.setCell ⟨g, 1, none⟩ (.int .i64 v)) g { m with f := v } := by unfold LtAt at h ⊢; simp [World.setCell, Array.getElem?_modify, h]
theorem LtAt.freeF {w : World} {g : Nat} {m : Lt} (h : LtAt w g m) : w.frozen? ⟨g, 1, none⟩ = false := by unfold LtAt at h; simp [World.frozen?, h]
theorem wk_asked2 : askedN n2 = 2 := rfl
theorem wk_asked3 : askedN n3 = 0 := rfl
set_option maxRecDepth 100000 in
set_option maxHeartbeats 8000000 in
theorem wakes18_any (w : World) : Calls Try.prog 7 #[] w fun e w' => e = .returned (.bool true) ∧ Below w.heap.size w w' := by
  go_enter Try.func7, Try.ntmps7
  go_wp2_with fail
  refine (Begin_any 0 cfW _).mono ?_
  rintro e w1 ⟨rfl, hb1⟩
  have hsz1 := hb1.size
  have hA : NmRow ((w1.alloc (.cells #[.int .i64 0, .int .i64 0, .int .i64 0, .int .i64 0, .int .i64 0, .int .i64 0, .int .i64 0, .int .i64 5, .int .i64 2, .int .i64 0, .slice none 0 0, .slice none 0 0, .bool false] 29)).alloc (.cells #[.int .i8 6, .int .i64 4, .int .i64 0, .int .i64 0, .string ⟨#[97]⟩, .int .i64 0] 40)) w1.heap.size n0H := (Below.heap_alloc _ _ _ (by simp)).trans (heap_alloc_new w1 _)
  have hM : LtAt ((w1.alloc (.cells #[.int .i64 0, .int .i64 0, .int .i64 0, .int .i64 0, .int .i64 0, .int .i64 0, .int .i64 0, .int .i64 5, .int .i64 2, .int .i64 0, .slice none 0 0, .slice none 0 0, .bool false] 29)).alloc (.cells #[.int .i8 6, .int .i64 4, .int .i64 0, .int .i64 0, .string ⟨#[97]⟩, .int .i64 0] 40)) (w1.heap.size + 1) ⟨6, 4, 0, 0, sA, 0⟩ := by
    have := heap_alloc_new (w1.alloc (.cells #[.int .i64 0, .int .i64 0, .int .i64 0, .int .i64 0, .int .i64 0, .int .i64 0, .int .i64 0, .int .i64 5, .int .i64 2, .int .i64 0, .slice none 0 0, .slice none 0 0, .bool false] 29)) (.cells #[.int .i8 6, .int .i64 4, .int .i64 0, .int .i64 0, .string ⟨#[97]⟩, .int .i64 0] 40)
    rw [World.size_alloc] at this
    exact this
  have hbA : Below w.heap.size w ((w1.alloc (.cells #[.int .i64 0, .int .i64 0, .int .i64 0, .int .i64 0, .int .i64 0, .int .i64 0, .int .i64 0, .int .i64 5, .int .i64 2, .int .i64 0, .slice none 0 0, .slice none 0 0, .bool false] 29)).alloc (.cells #[.int .i8 6, .int .i64 4, .int .i64 0, .int .i64 0, .string ⟨#[97]⟩, .int .i64 0] 40)) := (hb1.alloc hb1.size _).alloc (by have := hb1.size; simp; omega) _
  go_upto_region 3 with fail
  generalize ((w1.alloc (.cells #[.int .i64 0, .int .i64 0, .int .i64 0, .int .i64 0, .int .i64 0, .int .i64 0, .int .i64 0, .int .i64 5, .int .i64 2, .int .i64 0, .slice none 0 0, .slice none 0 0, .bool false] 29)).alloc (.cells #[.int .i8 6, .int .i64 4, .int .i64 0, .int .i64 0, .string ⟨#[97]⟩, .int .i64 0] 40)) = W at hA hM hbA ⊢
  obtain ⟨a0, a1, a2, a3, a4, a5, a6, a7, a8, a9, a10, a11, a12⟩ := hA.cells
  obtain ⟨m0, m1, m2, m3, m4, m5⟩ := hM.cells
  go_wp2_with fail
  refine (take_nv (w1.heap.size + 1) n0 n0H 0 ⟨6, 4, 0, 0, sA, 0⟩ 0 9 _ (NmV.nil_ _ _ _ _) hM.lt ok0 (by decide)).mono ?_
  rw [wk1]
  rintro e w2 ⟨h1, A1, k1, c1, rfl, hv1, hd1, hb2⟩
  obtain rfl : k1 = 2 := hd1.len.symm
  clear a0 a1 a2 a3 a4 a5 a6 a7 a8 a9 a10 a11 a12 m0 m1 m2 m3 m4 m5
  have hA2 : NmRow w2 w1.heap.size n0H := (hb2.block _ hA.lt).trans hA
  have hM2 := hM.below hb2 hM.lt
  have hbW := hbA.trans (hb2.mono hbA.size)
  clear hA hM hbA hb2
  obtain ⟨r0, r1, r2, r3, r4, r5, r6, r7, r8, r9, r10, r11, r12⟩ := hA2.cells
  obtain ⟨f0, f1, f2, f3, f4, f5, f6, f7, f8, f9, f10, f11, f12⟩ := hA2.free
  have hR2 := nmPut_at h1 hA2
  have hM3 : LtAt (nmPut w2 w1.heap.size h1) (w1.heap.size + 1) ⟨6, 4, 0, 0, sA, 0⟩ := hM2.block (nmPut_other _ _ _ _ (by omega))
  have hv2 := hv1.put (g := w1.heap.size) (by omega) h1
  have hd2 := hd1.put (g := w1.heap.size) (by omega) h1
  have hbP := nmPut_below (g := w1.heap.size) h1 hbW hsz1
  obtain ⟨m0, m1, m2, m3, m4, m5⟩ := hM3.cells
  have fm := hM3.freeF
  have hX : NmRow ((nmPut w2 w1.heap.size h1).setCell ⟨w1.heap.size + 1, 1, none⟩ (.int .i64 6)) w1.heap.size h1 ∧ LtAt ((nmPut w2 w1.heap.size h1).setCell ⟨w1.heap.size + 1, 1, none⟩ (.int .i64 6)) (w1.heap.size + 1) ⟨6, 6, 0, 0, sA, 0⟩ ∧ NmV (w1.heap.size + 1) ((nmPut w2 w1.heap.size h1).setCell ⟨w1.heap.size + 1, 1, none⟩ (.int .i64 6)) n1 h1 ∧ DdV (w1.heap.size + 1) ((nmPut w2 w1.heap.size h1).setCell ⟨w1.heap.size + 1, 1, none⟩ (.int .i64 6)) (spawnN 9 0 sA) A1 2 ∧ Below w.heap.size w ((nmPut w2 w1.heap.size h1).setCell ⟨w1.heap.size + 1, 1, none⟩ (.int .i64 6)) :=
    ⟨hR2.block (Below.heap_setCell _ _ _ _ (by simp)), hM3.setF 6, hv2.set (by simp) _, hd2.set (by simp) _, hbP.setCell (by simp; omega) _⟩
  unfold nmPut at hX m0 m1 m2 m3 m4 m5 fm
  clear hR2 hM3 hv2 hd2 hbP hv1 hd1 hM2
  go_upto_region 5 with fail
  clear r0 r1 r2 r3 r4 r5 r6 r7 r8 r9 r10 r11 r12 f0 f1 f2 f3 f4 f5 f6 f7 f8 f9 f10 f11 f12 m0 m1 m2 m3 m4 m5 fm
  generalize (((((((((((((((w2.setCell ⟨w1.heap.size, 0, none⟩ (.int .i64 h1.id)).setCell ⟨w1.heap.size, 1, none⟩ (.int .i64 h1.cf.1)).setCell ⟨w1.heap.size, 2, none⟩ (.int .i64 h1.cf.2.1)).setCell ⟨w1.heap.size, 3, none⟩ (.int .i64 h1.cf.2.2.1)).setCell ⟨w1.heap.size, 4, none⟩ (.int .i64 h1.cf.2.2.2.1)).setCell ⟨w1.heap.size, 5, none⟩ (.int .i64 h1.cf.2.2.2.2.1)).setCell ⟨w1.heap.size, 6, none⟩ (.int .i64 h1.cf.2.2.2.2.2.1)).setCell ⟨w1.heap.size, 7, none⟩ (.int .i64 h1.cf.2.2.2.2.2.2.1)).setCell ⟨w1.heap.size, 8, none⟩ (.int .i64 h1.cf.2.2.2.2.2.2.2.1)).setCell ⟨w1.heap.size, 9, none⟩ (.int .i64 h1.cf.2.2.2.2.2.2.2.2)).setCell ⟨w1.heap.size, 10, none⟩ (.slice h1.kA h1.kn h1.kc)).setCell ⟨w1.heap.size, 11, none⟩ (.slice h1.fA h1.fn h1.fc)).setCell ⟨w1.heap.size, 12, none⟩ (.bool h1.over))).setCell ⟨w1.heap.size + 1, 1, none⟩ (.int .i64 6)) = W2 at hX ⊢
  obtain ⟨hA3, hM3, hv3, hd3, hb3⟩ := hX
  obtain ⟨a0, a1, a2, a3, a4, a5, a6, a7, a8, a9, a10, a11, a12⟩ := hA3.cells
  obtain ⟨m0, m1, m2, m3, m4, m5⟩ := hM3.cells
  go_wp2_with fail
  refine (take_nv (w1.heap.size + 1) n1 h1 0 ⟨6, 6, 0, 0, sA, 0⟩ 0 10 _ hv3 hM3.lt ok1 (by decide)).mono ?_
  rw [wk2]
  rintro e w4 ⟨h2, A2, k2, c2, rfl, hv4, hd4, hb4⟩
  obtain rfl : k2 = 0 := hd4.len.symm
  clear a0 a1 a2 a3 a4 a5 a6 a7 a8 a9 a10 a11 a12 m0 m1 m2 m3 m4 m5
  have hA4 : NmRow w4 w1.heap.size h1 := (hb4.block _ hA3.lt).trans hA3
  have hd5 := hd3.next hb4
  have hb5 := hb3.trans (hb4.mono hb3.size)
  have hq5 : w1.heap.size + 1 < w4.heap.size := Nat.lt_of_lt_of_le hM3.lt hb4.size
  clear hA3 hM3 hv3 hd3 hb3 hb4 hd4
  obtain ⟨r0, r1, r2, r3, r4, r5, r6, r7, r8, r9, r10, r11, r12⟩ := hA4.cells
  obtain ⟨f0, f1, f2, f3, f4, f5, f6, f7, f8, f9, f10, f11, f12⟩ := hA4.free
  have hX := And.intro (nmPut_at h2 hA4) (And.intro (hv4.put (g := w1.heap.size) (by omega) h2) (And.intro (hd5.put (g := w1.heap.size) (by omega) h2) (And.intro (nmPut_below (g := w1.heap.size) h2 hb5 hsz1) (show w1.heap.size + 1 < (nmPut w4 w1.heap.size h2).heap.size by rw [nmPut_size]; exact hq5))))
  unfold nmPut at hX
  clear hv4 hd5 hb5 hq5
  go_upto_region 6 with fail
  clear r0 r1 r2 r3 r4 r5 r6 r7 r8 r9 r10 r11 r12 f0 f1 f2 f3 f4 f5 f6 f7 f8 f9 f10 f11 f12
  generalize ((((((((((((((w4.setCell ⟨w1.heap.size, 0, none⟩ (.int .i64 h2.id)).setCell ⟨w1.heap.size, 1, none⟩ (.int .i64 h2.cf.1)).setCell ⟨w1.heap.size, 2, none⟩ (.int .i64 h2.cf.2.1)).setCell ⟨w1.heap.size, 3, none⟩ (.int .i64 h2.cf.2.2.1)).setCell ⟨w1.heap.size, 4, none⟩ (.int .i64 h2.cf.2.2.2.1)).setCell ⟨w1.heap.size, 5, none⟩ (.int .i64 h2.cf.2.2.2.2.1)).setCell ⟨w1.heap.size, 6, none⟩ (.int .i64 h2.cf.2.2.2.2.2.1)).setCell ⟨w1.heap.size, 7, none⟩ (.int .i64 h2.cf.2.2.2.2.2.2.1)).setCell ⟨w1.heap.size, 8, none⟩ (.int .i64 h2.cf.2.2.2.2.2.2.2.1)).setCell ⟨w1.heap.size, 9, none⟩ (.int .i64 h2.cf.2.2.2.2.2.2.2.2)).setCell ⟨w1.heap.size, 10, none⟩ (.slice h2.kA h2.kn h2.kc)).setCell ⟨w1.heap.size, 11, none⟩ (.slice h2.fA h2.fn h2.fc)).setCell ⟨w1.heap.size, 12, none⟩ (.bool h2.over))) = W3 at hX ⊢
  obtain ⟨hA6, hv6, hd6, hb6, hq6⟩ := hX
  obtain ⟨b0, o0, go0, e0, l0, c00, c01, c02, c06, c07, c018, hg0⟩ := hd6.cells (i := 0) (d := ⟨0, 0, 0, ⟨#[]⟩, 0, some (9, 0, sA)⟩) rfl
  subst e0
  obtain ⟨b1, o1, go1, e1, l1, c10, c11, c12, c16, c17, c118, hg1⟩ := hd6.cells (i := 1) (d := ⟨7, 9, 0, sA, 0, none⟩) rfl
  injection e1 with e1
  injection e1 with e1 e2
  subst e1 e2
  obtain ⟨gs, rfl, lgs, s0, s84, s85, s86⟩ := go_spawn hg0
  simp only [Nat.zero_mul, Nat.add_zero, Nat.one_mul] at c00 c01 c02 c06 c07 c018 c10 c11 c12 c16 c17 c118
  clear hg0 hg1 c01 c02 c06 c07 c11 c12 c16 c17 c118 s0 s85 s86
  obtain ⟨a0, a1, a2, a3, a4, a5, a6, a7, a8, a9, a10, a11, a12⟩ := hA6.cells
  have hS6 := Strs.new1 W3 _ rfl sA 9
  have has := asked_nv (w1.heap.size + 1) n2 h2 W3 hv6 ok2
  rw [wk_asked2] at has
  go_wp2_with fail
  refine has.mono ?_
  rintro e w5 ⟨rfl, hb7⟩
  have hA7 : NmRow w5 w1.heap.size h2 := (hb7.block _ hA6.lt).trans hA6
  have hv7 := hv6.next hb7
  have hb8 := hb6.trans (hb7.mono hb6.size)
  have hq7 : w1.heap.size + 1 < w5.heap.size := Nat.lt_of_lt_of_le hq6 hb7.size
  clear a0 a1 a2 a3 a4 a5 a6 a7 a8 a9 a10 a11 a12 c00 c018 c10 s84 hS6 has hA6 hv6 hd6 hb6 hb7
  obtain ⟨a0, a1, a2, a3, a4, a5, a6, a7, a8, a9, a10, a11, a12⟩ := hA7.cells
  have hS7 := (Strs.new1 w5 _ rfl sA 9).more (B' := (w5.alloc (.cells #[.string sA] 9)).heap.size) (by simp)
  have hbn := Below.new_ w5 (.cells #[.string sA] 9)
  have hfl := flies_nv (w1.heap.size + 1) n2 h2 (some ⟨w5.heap.size, 0, none⟩) 1 1 [sA] _ (hv7.next hbn) ok2 hS7 (by omega)
  rw [wk_flies] at hfl
  go_wp2_with fail
  refine hfl.mono ?_
  rintro e w6 ⟨rfl, hbf⟩
  have hbm := hbn.trans (hbf.mono hbn.size)
  have hA8 : NmRow w6 w1.heap.size h2 := (hbm.block _ hA7.lt).trans hA7
  have hv8 := hv7.next hbm
  have hb9 := hb8.trans (hbm.mono hb8.size)
  have hq8 : w1.heap.size + 1 < w6.heap.size := Nat.lt_of_lt_of_le hq7 hbm.size
  clear a0 a1 a2 a3 a4 a5 a6 a7 a8 a9 a10 a11 a12 hS7 hfl hbn hbf hbm hA7 hv7 hb8 hq7
  obtain ⟨a0, a1, a2, a3, a4, a5, a6, a7, a8, a9, a10, a11, a12⟩ := hA8.cells
  go_wp2_with fail
  refine (take_nv (w1.heap.size + 1) n2 h2 0 ⟨7, 9, 0, 0, sRow, 0⟩ 1 10 _ hv8 hq8 ok2 (by decide)).mono ?_
  rw [wk3]
  rintro e w7 ⟨h3, A3, k3, c3, rfl, hv9, hd9, hbt⟩
  obtain rfl : k3 = 2 := hd9.len.symm
  have hA9 : NmRow w7 w1.heap.size h2 := (hbt.block _ hA8.lt).trans hA8
  have hb10 := hb9.trans (hbt.mono hb9.size)
  have hq9 : w1.heap.size + 1 < w7.heap.size := Nat.lt_of_lt_of_le hq8 hbt.size
  clear a0 a1 a2 a3 a4 a5 a6 a7 a8 a9 a10 a11 a12 hbt hA8 hv8 hb9 hq8
  obtain ⟨r0, r1, r2, r3, r4, r5, r6, r7, r8, r9, r10, r11, r12⟩ := hA9.cells
  obtain ⟨f0, f1, f2, f3, f4, f5, f6, f7, f8, f9, f10, f11, f12⟩ := hA9.free
  have hX := And.intro (nmPut_at h3 hA9) (And.intro (hv9.put (g := w1.heap.size) (by omega) h3) (And.intro (hd9.put (g := w1.heap.size) (by omega) h3) (And.intro (nmPut_below (g := w1.heap.size) h3 hb10 hsz1) (show w1.heap.size + 1 < (nmPut w7 w1.heap.size h3).heap.size by rw [nmPut_size]; exact hq9))))
  unfold nmPut at hX
  clear hv9 hd9 hb10 hq9
  go_upto_region 9 with fail
  clear r0 r1 r2 r3 r4 r5 r6 r7 r8 r9 r10 r11 r12 f0 f1 f2 f3 f4 f5 f6 f7 f8 f9 f10 f11 f12
  generalize ((((((((((((((w7.setCell ⟨w1.heap.size, 0, none⟩ (.int .i64 h3.id)).setCell ⟨w1.heap.size, 1, none⟩ (.int .i64 h3.cf.1)).setCell ⟨w1.heap.size, 2, none⟩ (.int .i64 h3.cf.2.1)).setCell ⟨w1.heap.size, 3, none⟩ (.int .i64 h3.cf.2.2.1)).setCell ⟨w1.heap.size, 4, none⟩ (.int .i64 h3.cf.2.2.2.1)).setCell ⟨w1.heap.size, 5, none⟩ (.int .i64 h3.cf.2.2.2.2.1)).setCell ⟨w1.heap.size, 6, none⟩ (.int .i64 h3.cf.2.2.2.2.2.1)).setCell ⟨w1.heap.size, 7, none⟩ (.int .i64 h3.cf.2.2.2.2.2.2.1)).setCell ⟨w1.heap.size, 8, none⟩ (.int .i64 h3.cf.2.2.2.2.2.2.2.1)).setCell ⟨w1.heap.size, 9, none⟩ (.int .i64 h3.cf.2.2.2.2.2.2.2.2)).setCell ⟨w1.heap.size, 10, none⟩ (.slice h3.kA h3.kn h3.kc)).setCell ⟨w1.heap.size, 11, none⟩ (.slice h3.fA h3.fn h3.fc)).setCell ⟨w1.heap.size, 12, none⟩ (.bool h3.over))) = W4 at hX ⊢
  obtain ⟨hA10, hv10, hd10, hb11, hq10⟩ := hX
  obtain ⟨b3, o3, go3, e3, l3, c30, c31, c32, c36, c37, c318, hg3⟩ := hd10.cells (i := 0) (d := tellN sRow 0 4) rfl
  subst e3
  obtain ⟨b4, o4, go4, e4, l4, c40, c41, c42, c46, c47, c418, hg4⟩ := hd10.cells (i := 1) (d := tellN sRow 0 6) rfl
  injection e4 with e4
  injection e4 with e4 e5
  subst e4 e5
  simp only [Nat.zero_mul, Nat.add_zero, Nat.one_mul, tellN] at c30 c31 c32 c36 c37 c318 c40 c41 c42 c46 c47 c418
  clear hg3 hg4 c32 c36 c37 c318 c40 c41 c42 c47 c418
  obtain ⟨a0, a1, a2, a3, a4, a5, a6, a7, a8, a9, a10, a11, a12⟩ := hA10.cells
  have hk3 := hv10.kn
  have hk3' : h3.kn = 1 := hk3.trans wk_learn
  have HK3 := Lib.hid hk3'
  have ho3 := hv10.over
  have ho3' : h3.over = false := ho3
  have HO3 := Lib.hid ho3'
  clear hk3 hk3' ho3 ho3'
  have hS : Below W4.heap.size W4 W4.drew := (Below.refl _ _).drew
  have la := hA10.lt
  refine wp_region_held_drew (S := (fun wx => Below W4.heap.size W4 wx)) (by kernel_rfl) ?_ (fun hHeld => ?_)
  · (try dsimp only); first | done | ((first | exact hS | skip))
  first
    | (refine wpAnyH_take (i := 0) (v := ?_) rfl (by kernel_rfl) (by kernel_rfl) (by kernel_rfl) (fun _ _ _ h => h) (Or.inl ⟨by rfl, ?_⟩) hHeld ?_; rotate_left; (intro wq hSw; (try dsimp only at hSw); go_simp; done))
    | (refine wpAnyH_take (i := 0) (v := ?_) rfl (by kernel_rfl) (by kernel_rfl) (by kernel_rfl) (fun _ _ _ h => h) (Or.inl ⟨by rfl, ?_⟩) hHeld ?_; rotate_left; (intro wq hSw; (try dsimp only at hSw); go_simp; with_reducible rfl))
    | refine wpAnyH_take (i := 0) (v := undef) rfl (by kernel_rfl) (by kernel_rfl) (by kernel_rfl) (fun _ _ _ h => h) (Or.inr ⟨by rfl, rfl⟩) hHeld ?_
  try simp only [Act.put, List.getElem_toArray, List.getElem_cons_succ, List.getElem_cons_zero, List.setIfInBounds_toArray, List.set_cons_zero, List.set_cons_succ]
  first
    | (refine wpAnyH_take (i := 1) (v := ?_) rfl (by kernel_rfl) (by kernel_rfl) (by kernel_rfl) (fun _ _ _ h => h) (Or.inl ⟨by rfl, ?_⟩) hHeld ?_; rotate_left; (intro wq hSw; (try dsimp only at hSw); go_simp; done))
    | (refine wpAnyH_take (i := 1) (v := ?_) rfl (by kernel_rfl) (by kernel_rfl) (by kernel_rfl) (fun _ _ _ h => h) (Or.inl ⟨by rfl, ?_⟩) hHeld ?_; rotate_left; (intro wq hSw; (try dsimp only at hSw); go_simp; with_reducible rfl))
    | refine wpAnyH_take (i := 1) (v := undef) rfl (by kernel_rfl) (by kernel_rfl) (by kernel_rfl) (fun _ _ _ h => h) (Or.inr ⟨by rfl, rfl⟩) hHeld ?_
  try simp only [Act.put, List.getElem_toArray, List.getElem_cons_succ, List.getElem_cons_zero, List.setIfInBounds_toArray, List.set_cons_zero, List.set_cons_succ]
  first
    | (refine wpAnyH_take (i := 2) (v := ?_) rfl (by kernel_rfl) (by kernel_rfl) (by kernel_rfl) (fun _ _ _ h => h) (Or.inl ⟨by rfl, ?_⟩) hHeld ?_; rotate_left; (intro wq hSw; (try dsimp only at hSw); go_simp; done))
    | (refine wpAnyH_take (i := 2) (v := ?_) rfl (by kernel_rfl) (by kernel_rfl) (by kernel_rfl) (fun _ _ _ h => h) (Or.inl ⟨by rfl, ?_⟩) hHeld ?_; rotate_left; (intro wq hSw; (try dsimp only at hSw); go_simp; with_reducible rfl))
    | refine wpAnyH_take (i := 2) (v := undef) rfl (by kernel_rfl) (by kernel_rfl) (by kernel_rfl) (fun _ _ _ h => h) (Or.inr ⟨by rfl, rfl⟩) hHeld ?_
  try simp only [Act.put, List.getElem_toArray, List.getElem_cons_succ, List.getElem_cons_zero, List.setIfInBounds_toArray, List.set_cons_zero, List.set_cons_succ]
  first
    | (refine wpAnyH_take (i := 3) (v := ?_) rfl (by kernel_rfl) (by kernel_rfl) (by kernel_rfl) (fun _ _ _ h => h) (Or.inl ⟨by rfl, ?_⟩) hHeld ?_; rotate_left; (intro wq hSw; (try dsimp only at hSw); go_simp; done))
    | (refine wpAnyH_take (i := 3) (v := ?_) rfl (by kernel_rfl) (by kernel_rfl) (by kernel_rfl) (fun _ _ _ h => h) (Or.inl ⟨by rfl, ?_⟩) hHeld ?_; rotate_left; (intro wq hSw; (try dsimp only at hSw); go_simp; with_reducible rfl))
    | refine wpAnyH_take (i := 3) (v := undef) rfl (by kernel_rfl) (by kernel_rfl) (by kernel_rfl) (fun _ _ _ h => h) (Or.inr ⟨by rfl, rfl⟩) hHeld ?_
  try simp only [Act.put, List.getElem_toArray, List.getElem_cons_succ, List.getElem_cons_zero, List.setIfInBounds_toArray, List.set_cons_zero, List.set_cons_succ]
  first
    | (refine wpAnyH_take (i := 4) (v := ?_) rfl (by kernel_rfl) (by kernel_rfl) (by kernel_rfl) (fun _ _ _ h => h) (Or.inl ⟨by rfl, ?_⟩) hHeld ?_; rotate_left; (intro wq hSw; (try dsimp only at hSw); go_simp; done))
    | (refine wpAnyH_take (i := 4) (v := ?_) rfl (by kernel_rfl) (by kernel_rfl) (by kernel_rfl) (fun _ _ _ h => h) (Or.inl ⟨by rfl, ?_⟩) hHeld ?_; rotate_left; (intro wq hSw; (try dsimp only at hSw); go_simp; with_reducible rfl))
    | refine wpAnyH_take (i := 4) (v := undef) rfl (by kernel_rfl) (by kernel_rfl) (by kernel_rfl) (fun _ _ _ h => h) (Or.inr ⟨by rfl, rfl⟩) hHeld ?_
  try simp only [Act.put, List.getElem_toArray, List.getElem_cons_succ, List.getElem_cons_zero, List.setIfInBounds_toArray, List.set_cons_zero, List.set_cons_succ]
  first
    | (refine wpAnyH_take (i := 5) (v := ?_) rfl (by kernel_rfl) (by kernel_rfl) (by kernel_rfl) (fun _ _ _ h => h) (Or.inl ⟨by rfl, ?_⟩) hHeld ?_; rotate_left; (intro wq hSw; (try dsimp only at hSw); go_simp; done))
    | (refine wpAnyH_take (i := 5) (v := ?_) rfl (by kernel_rfl) (by kernel_rfl) (by kernel_rfl) (fun _ _ _ h => h) (Or.inl ⟨by rfl, ?_⟩) hHeld ?_; rotate_left; (intro wq hSw; (try dsimp only at hSw); go_simp; with_reducible rfl))
    | refine wpAnyH_take (i := 5) (v := undef) rfl (by kernel_rfl) (by kernel_rfl) (by kernel_rfl) (fun _ _ _ h => h) (Or.inr ⟨by rfl, rfl⟩) hHeld ?_
  try simp only [Act.put, List.getElem_toArray, List.getElem_cons_succ, List.getElem_cons_zero, List.setIfInBounds_toArray, List.set_cons_zero, List.set_cons_succ]
  first
    | (refine wpAnyH_take (i := 6) (v := ?_) rfl (by kernel_rfl) (by kernel_rfl) (by kernel_rfl) (fun _ _ _ h => h) (Or.inl ⟨by rfl, ?_⟩) hHeld ?_; rotate_left; (intro wq hSw; (try dsimp only at hSw); go_simp; done))
    | (refine wpAnyH_take (i := 6) (v := ?_) rfl (by kernel_rfl) (by kernel_rfl) (by kernel_rfl) (fun _ _ _ h => h) (Or.inl ⟨by rfl, ?_⟩) hHeld ?_; rotate_left; (intro wq hSw; (try dsimp only at hSw); go_simp; with_reducible rfl))
    | refine wpAnyH_take (i := 6) (v := undef) rfl (by kernel_rfl) (by kernel_rfl) (by kernel_rfl) (fun _ _ _ h => h) (Or.inr ⟨by rfl, rfl⟩) hHeld ?_
  try simp only [Act.put, List.getElem_toArray, List.getElem_cons_succ, List.getElem_cons_zero, List.setIfInBounds_toArray, List.set_cons_zero, List.set_cons_succ]
  first
    | (refine wpAnyH_take (i := 7) (v := ?_) rfl (by kernel_rfl) (by kernel_rfl) (by kernel_rfl) (fun _ _ _ h => h) (Or.inl ⟨by rfl, ?_⟩) hHeld ?_; rotate_left; (intro wq hSw; (try dsimp only at hSw); have v0 := (hSw.cell (p := ⟨b3, o3, none⟩) l3).trans c30; go_simp; done))
    | (refine wpAnyH_take (i := 7) (v := ?_) rfl (by kernel_rfl) (by kernel_rfl) (by kernel_rfl) (fun _ _ _ h => h) (Or.inl ⟨by rfl, ?_⟩) hHeld ?_; rotate_left; (intro wq hSw; (try dsimp only at hSw); have v0 := (hSw.cell (p := ⟨b3, o3, none⟩) l3).trans c30; go_simp; with_reducible rfl))
    | refine wpAnyH_take (i := 7) (v := undef) rfl (by kernel_rfl) (by kernel_rfl) (by kernel_rfl) (fun _ _ _ h => h) (Or.inr ⟨by rfl, rfl⟩) hHeld ?_
  try simp only [Act.put, List.getElem_toArray, List.getElem_cons_succ, List.getElem_cons_zero, List.setIfInBounds_toArray, List.set_cons_zero, List.set_cons_succ]
  first
    | (refine wpAnyH_take (i := 8) (v := ?_) rfl (by kernel_rfl) (by kernel_rfl) (by kernel_rfl) (fun _ _ _ h => h) (Or.inl ⟨by rfl, ?_⟩) hHeld ?_; rotate_left; (intro wq hSw; (try dsimp only at hSw); go_simp; done))
    | (refine wpAnyH_take (i := 8) (v := ?_) rfl (by kernel_rfl) (by kernel_rfl) (by kernel_rfl) (fun _ _ _ h => h) (Or.inl ⟨by rfl, ?_⟩) hHeld ?_; rotate_left; (intro wq hSw; (try dsimp only at hSw); go_simp; with_reducible rfl))
    | refine wpAnyH_take (i := 8) (v := undef) rfl (by kernel_rfl) (by kernel_rfl) (by kernel_rfl) (fun _ _ _ h => h) (Or.inr ⟨by rfl, rfl⟩) hHeld ?_
  try simp only [Act.put, List.getElem_toArray, List.getElem_cons_succ, List.getElem_cons_zero, List.setIfInBounds_toArray, List.set_cons_zero, List.set_cons_succ]
  first
    | (refine wpAnyH_take (i := 9) (v := ?_) rfl (by kernel_rfl) (by kernel_rfl) (by kernel_rfl) (fun _ _ _ h => h) (Or.inl ⟨by rfl, ?_⟩) hHeld ?_; rotate_left; (intro wq hSw; (try dsimp only at hSw); go_simp; done))
    | (refine wpAnyH_take (i := 9) (v := ?_) rfl (by kernel_rfl) (by kernel_rfl) (by kernel_rfl) (fun _ _ _ h => h) (Or.inl ⟨by rfl, ?_⟩) hHeld ?_; rotate_left; (intro wq hSw; (try dsimp only at hSw); go_simp; with_reducible rfl))
    | refine wpAnyH_take (i := 9) (v := undef) rfl (by kernel_rfl) (by kernel_rfl) (by kernel_rfl) (fun _ _ _ h => h) (Or.inr ⟨by rfl, rfl⟩) hHeld ?_
  try simp only [Act.put, List.getElem_toArray, List.getElem_cons_succ, List.getElem_cons_zero, List.setIfInBounds_toArray, List.set_cons_zero, List.set_cons_succ]
  first
    | (refine wpAnyH_take (i := 10) (v := ?_) rfl (by kernel_rfl) (by kernel_rfl) (by kernel_rfl) (fun _ _ _ h => h) (Or.inl ⟨by rfl, ?_⟩) hHeld ?_; rotate_left; (intro wq hSw; (try dsimp only at hSw); go_simp; done))
    | (refine wpAnyH_take (i := 10) (v := ?_) rfl (by kernel_rfl) (by kernel_rfl) (by kernel_rfl) (fun _ _ _ h => h) (Or.inl ⟨by rfl, ?_⟩) hHeld ?_; rotate_left; (intro wq hSw; (try dsimp only at hSw); go_simp; with_reducible rfl))
    | refine wpAnyH_take (i := 10) (v := undef) rfl (by kernel_rfl) (by kernel_rfl) (by kernel_rfl) (fun _ _ _ h => h) (Or.inr ⟨by rfl, rfl⟩) hHeld ?_
  try simp only [Act.put, List.getElem_toArray, List.getElem_cons_succ, List.getElem_cons_zero, List.setIfInBounds_toArray, List.set_cons_zero, List.set_cons_succ]
  first
    | (refine wpAnyH_take (i := 11) (v := ?_) rfl (by kernel_rfl) (by kernel_rfl) (by kernel_rfl) (fun _ _ _ h => h) (Or.inl ⟨by rfl, ?_⟩) hHeld ?_; rotate_left; (intro wq hSw; (try dsimp only at hSw); go_simp; done))
    | (refine wpAnyH_take (i := 11) (v := ?_) rfl (by kernel_rfl) (by kernel_rfl) (by kernel_rfl) (fun _ _ _ h => h) (Or.inl ⟨by rfl, ?_⟩) hHeld ?_; rotate_left; (intro wq hSw; (try dsimp only at hSw); go_simp; with_reducible rfl))
    | refine wpAnyH_take (i := 11) (v := undef) rfl (by kernel_rfl) (by kernel_rfl) (by kernel_rfl) (fun _ _ _ h => h) (Or.inr ⟨by rfl, rfl⟩) hHeld ?_
  try simp only [Act.put, List.getElem_toArray, List.getElem_cons_succ, List.getElem_cons_zero, List.setIfInBounds_toArray, List.set_cons_zero, List.set_cons_succ]
  first
    | (refine wpAnyH_take (i := 12) (v := ?_) rfl (by kernel_rfl) (by kernel_rfl) (by kernel_rfl) (fun _ _ _ h => h) (Or.inl ⟨by rfl, ?_⟩) hHeld ?_; rotate_left; (intro wq hSw; (try dsimp only at hSw); go_simp; done))
    | (refine wpAnyH_take (i := 12) (v := ?_) rfl (by kernel_rfl) (by kernel_rfl) (by kernel_rfl) (fun _ _ _ h => h) (Or.inl ⟨by rfl, ?_⟩) hHeld ?_; rotate_left; (intro wq hSw; (try dsimp only at hSw); go_simp; with_reducible rfl))
    | refine wpAnyH_take (i := 12) (v := undef) rfl (by kernel_rfl) (by kernel_rfl) (by kernel_rfl) (fun _ _ _ h => h) (Or.inr ⟨by rfl, rfl⟩) hHeld ?_
  try simp only [Act.put, List.getElem_toArray, List.getElem_cons_succ, List.getElem_cons_zero, List.setIfInBounds_toArray, List.set_cons_zero, List.set_cons_succ]
  first
    | (refine wpAnyH_take (i := 13) (v := ?_) rfl (by kernel_rfl) (by kernel_rfl) (by kernel_rfl) (fun _ _ _ h => h) (Or.inl ⟨by rfl, ?_⟩) hHeld ?_; rotate_left; (intro wq hSw; (try dsimp only at hSw); go_simp; done))
    | (refine wpAnyH_take (i := 13) (v := ?_) rfl (by kernel_rfl) (by kernel_rfl) (by kernel_rfl) (fun _ _ _ h => h) (Or.inl ⟨by rfl, ?_⟩) hHeld ?_; rotate_left; (intro wq hSw; (try dsimp only at hSw); go_simp; with_reducible rfl))
    | refine wpAnyH_take (i := 13) (v := undef) rfl (by kernel_rfl) (by kernel_rfl) (by kernel_rfl) (fun _ _ _ h => h) (Or.inr ⟨by rfl, rfl⟩) hHeld ?_
  try simp only [Act.put, List.getElem_toArray, List.getElem_cons_succ, List.getElem_cons_zero, List.setIfInBounds_toArray, List.set_cons_zero, List.set_cons_succ]
  first
    | (refine wpAnyH_take (i := 14) (v := ?_) rfl (by kernel_rfl) (by kernel_rfl) (by kernel_rfl) (fun _ _ _ h => h) (Or.inl ⟨by rfl, ?_⟩) hHeld ?_; rotate_left; (intro wq hSw; (try dsimp only at hSw); have v0 := (hSw.cell (p := ⟨b3, o3 + 1, none⟩) l3).trans c31; go_simp; done))
    | (refine wpAnyH_take (i := 14) (v := ?_) rfl (by kernel_rfl) (by kernel_rfl) (by kernel_rfl) (fun _ _ _ h => h) (Or.inl ⟨by rfl, ?_⟩) hHeld ?_; rotate_left; (intro wq hSw; (try dsimp only at hSw); have v0 := (hSw.cell (p := ⟨b3, o3 + 1, none⟩) l3).trans c31; go_simp; with_reducible rfl))
    | refine wpAnyH_take (i := 14) (v := undef) rfl (by kernel_rfl) (by kernel_rfl) (by kernel_rfl) (fun _ _ _ h => h) (Or.inr ⟨by rfl, rfl⟩) hHeld ?_
  try simp only [Act.put, List.getElem_toArray, List.getElem_cons_succ, List.getElem_cons_zero, List.setIfInBounds_toArray, List.set_cons_zero, List.set_cons_succ]
  refine wpAnyH_ready (rs := [15]) (by kernel_rfl) (by simp) ?_
  refine AllReadyH.cons rfl (fun K hK => ?_) AllReadyH.nil
  go_simp; go_at_call 10; refine (rOf5_any 4 3 _ (by omega) (by omega) (by omega)).mono ?_; rintro e wx ⟨rfl, rfl⟩; try go_wp2_with fail
  refine hK.out _ _ ?_ (fun hHeld => ?_)
  · (try dsimp only); first | done | ((first | exact hS | skip))
  clear hK K
  try simp only [Act.put, List.getElem_toArray, List.getElem_cons_succ, List.getElem_cons_zero, List.setIfInBounds_toArray, List.set_cons_zero, List.set_cons_succ]
  first
    | (refine wpAnyH_take (i := 16) (v := ?_) rfl (by kernel_rfl) (by kernel_rfl) (by kernel_rfl) (fun _ _ _ h => h) (Or.inl ⟨by rfl, ?_⟩) hHeld ?_; rotate_left; (intro wq hSw; (try dsimp only at hSw); go_simp; done))
    | (refine wpAnyH_take (i := 16) (v := ?_) rfl (by kernel_rfl) (by kernel_rfl) (by kernel_rfl) (fun _ _ _ h => h) (Or.inl ⟨by rfl, ?_⟩) hHeld ?_; rotate_left; (intro wq hSw; (try dsimp only at hSw); go_simp; with_reducible rfl))
    | refine wpAnyH_take (i := 16) (v := undef) rfl (by kernel_rfl) (by kernel_rfl) (by kernel_rfl) (fun _ _ _ h => h) (Or.inr ⟨by rfl, rfl⟩) hHeld ?_
  try simp only [Act.put, List.getElem_toArray, List.getElem_cons_succ, List.getElem_cons_zero, List.setIfInBounds_toArray, List.set_cons_zero, List.set_cons_succ]
  first
    | (refine wpAnyH_take (i := 17) (v := ?_) rfl (by kernel_rfl) (by kernel_rfl) (by kernel_rfl) (fun _ _ _ h => h) (Or.inl ⟨by rfl, ?_⟩) hHeld ?_; rotate_left; (intro wq hSw; (try dsimp only at hSw); go_simp; done))
    | (refine wpAnyH_take (i := 17) (v := ?_) rfl (by kernel_rfl) (by kernel_rfl) (by kernel_rfl) (fun _ _ _ h => h) (Or.inl ⟨by rfl, ?_⟩) hHeld ?_; rotate_left; (intro wq hSw; (try dsimp only at hSw); go_simp; with_reducible rfl))
    | refine wpAnyH_take (i := 17) (v := undef) rfl (by kernel_rfl) (by kernel_rfl) (by kernel_rfl) (fun _ _ _ h => h) (Or.inr ⟨by rfl, rfl⟩) hHeld ?_
  try simp only [Act.put, List.getElem_toArray, List.getElem_cons_succ, List.getElem_cons_zero, List.setIfInBounds_toArray, List.set_cons_zero, List.set_cons_succ]
  first
    | (refine wpAnyH_take (i := 18) (v := ?_) rfl (by kernel_rfl) (by kernel_rfl) (by kernel_rfl) (fun _ _ _ h => h) (Or.inl ⟨by rfl, ?_⟩) hHeld ?_; rotate_left; (intro wq hSw; (try dsimp only at hSw); go_simp; done))
    | (refine wpAnyH_take (i := 18) (v := ?_) rfl (by kernel_rfl) (by kernel_rfl) (by kernel_rfl) (fun _ _ _ h => h) (Or.inl ⟨by rfl, ?_⟩) hHeld ?_; rotate_left; (intro wq hSw; (try dsimp only at hSw); go_simp; with_reducible rfl))
    | refine wpAnyH_take (i := 18) (v := undef) rfl (by kernel_rfl) (by kernel_rfl) (by kernel_rfl) (fun _ _ _ h => h) (Or.inr ⟨by rfl, rfl⟩) hHeld ?_
  try simp only [Act.put, List.getElem_toArray, List.getElem_cons_succ, List.getElem_cons_zero, List.setIfInBounds_toArray, List.set_cons_zero, List.set_cons_succ]
  first
    | (refine wpAnyH_take (i := 19) (v := ?_) rfl (by kernel_rfl) (by kernel_rfl) (by kernel_rfl) (fun _ _ _ h => h) (Or.inl ⟨by rfl, ?_⟩) hHeld ?_; rotate_left; (intro wq hSw; (try dsimp only at hSw); go_simp; done))
    | (refine wpAnyH_take (i := 19) (v := ?_) rfl (by kernel_rfl) (by kernel_rfl) (by kernel_rfl) (fun _ _ _ h => h) (Or.inl ⟨by rfl, ?_⟩) hHeld ?_; rotate_left; (intro wq hSw; (try dsimp only at hSw); go_simp; with_reducible rfl))
    | refine wpAnyH_take (i := 19) (v := undef) rfl (by kernel_rfl) (by kernel_rfl) (by kernel_rfl) (fun _ _ _ h => h) (Or.inr ⟨by rfl, rfl⟩) hHeld ?_
  try simp only [Act.put, List.getElem_toArray, List.getElem_cons_succ, List.getElem_cons_zero, List.setIfInBounds_toArray, List.set_cons_zero, List.set_cons_succ]
  first
    | (refine wpAnyH_take (i := 20) (v := ?_) rfl (by kernel_rfl) (by kernel_rfl) (by kernel_rfl) (fun _ _ _ h => h) (Or.inl ⟨by rfl, ?_⟩) hHeld ?_; rotate_left; (intro wq hSw; (try dsimp only at hSw); go_simp; done))
    | (refine wpAnyH_take (i := 20) (v := ?_) rfl (by kernel_rfl) (by kernel_rfl) (by kernel_rfl) (fun _ _ _ h => h) (Or.inl ⟨by rfl, ?_⟩) hHeld ?_; rotate_left; (intro wq hSw; (try dsimp only at hSw); go_simp; with_reducible rfl))
    | refine wpAnyH_take (i := 20) (v := undef) rfl (by kernel_rfl) (by kernel_rfl) (by kernel_rfl) (fun _ _ _ h => h) (Or.inr ⟨by rfl, rfl⟩) hHeld ?_
  try simp only [Act.put, List.getElem_toArray, List.getElem_cons_succ, List.getElem_cons_zero, List.setIfInBounds_toArray, List.set_cons_zero, List.set_cons_succ]
  first
    | (refine wpAnyH_take (i := 21) (v := ?_) rfl (by kernel_rfl) (by kernel_rfl) (by kernel_rfl) (fun _ _ _ h => h) (Or.inl ⟨by rfl, ?_⟩) hHeld ?_; rotate_left; (intro wq hSw; (try dsimp only at hSw); go_simp; done))
    | (refine wpAnyH_take (i := 21) (v := ?_) rfl (by kernel_rfl) (by kernel_rfl) (by kernel_rfl) (fun _ _ _ h => h) (Or.inl ⟨by rfl, ?_⟩) hHeld ?_; rotate_left; (intro wq hSw; (try dsimp only at hSw); go_simp; with_reducible rfl))
    | refine wpAnyH_take (i := 21) (v := undef) rfl (by kernel_rfl) (by kernel_rfl) (by kernel_rfl) (fun _ _ _ h => h) (Or.inr ⟨by rfl, rfl⟩) hHeld ?_
  try simp only [Act.put, List.getElem_toArray, List.getElem_cons_succ, List.getElem_cons_zero, List.setIfInBounds_toArray, List.set_cons_zero, List.set_cons_succ]
  first
    | (refine wpAnyH_take (i := 22) (v := ?_) rfl (by kernel_rfl) (by kernel_rfl) (by kernel_rfl) (fun _ _ _ h => h) (Or.inl ⟨by rfl, ?_⟩) hHeld ?_; rotate_left; (intro wq hSw; (try dsimp only at hSw); go_simp; done))
    | (refine wpAnyH_take (i := 22) (v := ?_) rfl (by kernel_rfl) (by kernel_rfl) (by kernel_rfl) (fun _ _ _ h => h) (Or.inl ⟨by rfl, ?_⟩) hHeld ?_; rotate_left; (intro wq hSw; (try dsimp only at hSw); go_simp; with_reducible rfl))
    | refine wpAnyH_take (i := 22) (v := undef) rfl (by kernel_rfl) (by kernel_rfl) (by kernel_rfl) (fun _ _ _ h => h) (Or.inr ⟨by rfl, rfl⟩) hHeld ?_
  try simp only [Act.put, List.getElem_toArray, List.getElem_cons_succ, List.getElem_cons_zero, List.setIfInBounds_toArray, List.set_cons_zero, List.set_cons_succ]
  first
    | (refine wpAnyH_take (i := 23) (v := ?_) rfl (by kernel_rfl) (by kernel_rfl) (by kernel_rfl) (fun _ _ _ h => h) (Or.inl ⟨by rfl, ?_⟩) hHeld ?_; rotate_left; (intro wq hSw; (try dsimp only at hSw); have v0 := (hSw.cell (p := ⟨b3, o3 + 19 + 6, none⟩) l3).trans c46; go_simp; done))
    | (refine wpAnyH_take (i := 23) (v := ?_) rfl (by kernel_rfl) (by kernel_rfl) (by kernel_rfl) (fun _ _ _ h => h) (Or.inl ⟨by rfl, ?_⟩) hHeld ?_; rotate_left; (intro wq hSw; (try dsimp only at hSw); have v0 := (hSw.cell (p := ⟨b3, o3 + 19 + 6, none⟩) l3).trans c46; go_simp; with_reducible rfl))
    | refine wpAnyH_take (i := 23) (v := undef) rfl (by kernel_rfl) (by kernel_rfl) (by kernel_rfl) (fun _ _ _ h => h) (Or.inr ⟨by rfl, rfl⟩) hHeld ?_
  try simp only [Act.put, List.getElem_toArray, List.getElem_cons_succ, List.getElem_cons_zero, List.setIfInBounds_toArray, List.set_cons_zero, List.set_cons_succ]
  first
    | (refine wpAnyH_take (i := 24) (v := ?_) rfl (by kernel_rfl) (by kernel_rfl) (by kernel_rfl) (fun _ _ _ h => h) (Or.inl ⟨by rfl, ?_⟩) hHeld ?_; rotate_left; (intro wq hSw; (try dsimp only at hSw); go_simp; done))
    | (refine wpAnyH_take (i := 24) (v := ?_) rfl (by kernel_rfl) (by kernel_rfl) (by kernel_rfl) (fun _ _ _ h => h) (Or.inl ⟨by rfl, ?_⟩) hHeld ?_; rotate_left; (intro wq hSw; (try dsimp only at hSw); go_simp; with_reducible rfl))
    | refine wpAnyH_take (i := 24) (v := undef) rfl (by kernel_rfl) (by kernel_rfl) (by kernel_rfl) (fun _ _ _ h => h) (Or.inr ⟨by rfl, rfl⟩) hHeld ?_
  try simp only [Act.put, List.getElem_toArray, List.getElem_cons_succ, List.getElem_cons_zero, List.setIfInBounds_toArray, List.set_cons_zero, List.set_cons_succ]
  first
    | (refine wpAnyH_take (i := 25) (v := ?_) rfl (by kernel_rfl) (by kernel_rfl) (by kernel_rfl) (fun _ _ _ h => h) (Or.inl ⟨by rfl, ?_⟩) hHeld ?_; rotate_left; (intro wq hSw; (try dsimp only at hSw); go_simp; done))
    | (refine wpAnyH_take (i := 25) (v := ?_) rfl (by kernel_rfl) (by kernel_rfl) (by kernel_rfl) (fun _ _ _ h => h) (Or.inl ⟨by rfl, ?_⟩) hHeld ?_; rotate_left; (intro wq hSw; (try dsimp only at hSw); go_simp; with_reducible rfl))
    | refine wpAnyH_take (i := 25) (v := undef) rfl (by kernel_rfl) (by kernel_rfl) (by kernel_rfl) (fun _ _ _ h => h) (Or.inr ⟨by rfl, rfl⟩) hHeld ?_
  try simp only [Act.put, List.getElem_toArray, List.getElem_cons_succ, List.getElem_cons_zero, List.setIfInBounds_toArray, List.set_cons_zero, List.set_cons_succ]
  first
    | (refine wpAnyH_take (i := 26) (v := ?_) rfl (by kernel_rfl) (by kernel_rfl) (by kernel_rfl) (fun _ _ _ h => h) (Or.inl ⟨by rfl, ?_⟩) hHeld ?_; rotate_left; (intro wq hSw; (try dsimp only at hSw); go_simp; done))
    | (refine wpAnyH_take (i := 26) (v := ?_) rfl (by kernel_rfl) (by kernel_rfl) (by kernel_rfl) (fun _ _ _ h => h) (Or.inl ⟨by rfl, ?_⟩) hHeld ?_; rotate_left; (intro wq hSw; (try dsimp only at hSw); go_simp; with_reducible rfl))
    | refine wpAnyH_take (i := 26) (v := undef) rfl (by kernel_rfl) (by kernel_rfl) (by kernel_rfl) (fun _ _ _ h => h) (Or.inr ⟨by rfl, rfl⟩) hHeld ?_
  try simp only [Act.put, List.getElem_toArray, List.getElem_cons_succ, List.getElem_cons_zero, List.setIfInBounds_toArray, List.set_cons_zero, List.set_cons_succ]
  first
    | (refine wpAnyH_take (i := 27) (v := ?_) rfl (by kernel_rfl) (by kernel_rfl) (by kernel_rfl) (fun _ _ _ h => h) (Or.inl ⟨by rfl, ?_⟩) hHeld ?_; rotate_left; (intro wq hSw; (try dsimp only at hSw); have v0 := (hSw.cell (p := ⟨w1.heap.size, 0, none⟩) la).trans a0; have v1 := (hSw.cell (p := ⟨w1.heap.size, 1, none⟩) la).trans a1; have v2 := (hSw.cell (p := ⟨w1.heap.size, 2, none⟩) la).trans a2; have v3 := (hSw.cell (p := ⟨w1.heap.size, 3, none⟩) la).trans a3; have v4 := (hSw.cell (p := ⟨w1.heap.size, 4, none⟩) la).trans a4; have v5 := (hSw.cell (p := ⟨w1.heap.size, 5, none⟩) la).trans a5; have v6 := (hSw.cell (p := ⟨w1.heap.size, 6, none⟩) la).trans a6; have v7 := (hSw.cell (p := ⟨w1.heap.size, 7, none⟩) la).trans a7; have v8 := (hSw.cell (p := ⟨w1.heap.size, 8, none⟩) la).trans a8; have v9 := (hSw.cell (p := ⟨w1.heap.size, 9, none⟩) la).trans a9; have v10 := (hSw.cell (p := ⟨w1.heap.size, 10, none⟩) la).trans a10; have v11 := (hSw.cell (p := ⟨w1.heap.size, 11, none⟩) la).trans a11; have v12 := (hSw.cell (p := ⟨w1.heap.size, 12, none⟩) la).trans a12; go_simp; done))
    | (refine wpAnyH_take (i := 27) (v := ?_) rfl (by kernel_rfl) (by kernel_rfl) (by kernel_rfl) (fun _ _ _ h => h) (Or.inl ⟨by rfl, ?_⟩) hHeld ?_; rotate_left; (intro wq hSw; (try dsimp only at hSw); have v0 := (hSw.cell (p := ⟨w1.heap.size, 0, none⟩) la).trans a0; have v1 := (hSw.cell (p := ⟨w1.heap.size, 1, none⟩) la).trans a1; have v2 := (hSw.cell (p := ⟨w1.heap.size, 2, none⟩) la).trans a2; have v3 := (hSw.cell (p := ⟨w1.heap.size, 3, none⟩) la).trans a3; have v4 := (hSw.cell (p := ⟨w1.heap.size, 4, none⟩) la).trans a4; have v5 := (hSw.cell (p := ⟨w1.heap.size, 5, none⟩) la).trans a5; have v6 := (hSw.cell (p := ⟨w1.heap.size, 6, none⟩) la).trans a6; have v7 := (hSw.cell (p := ⟨w1.heap.size, 7, none⟩) la).trans a7; have v8 := (hSw.cell (p := ⟨w1.heap.size, 8, none⟩) la).trans a8; have v9 := (hSw.cell (p := ⟨w1.heap.size, 9, none⟩) la).trans a9; have v10 := (hSw.cell (p := ⟨w1.heap.size, 10, none⟩) la).trans a10; have v11 := (hSw.cell (p := ⟨w1.heap.size, 11, none⟩) la).trans a11; have v12 := (hSw.cell (p := ⟨w1.heap.size, 12, none⟩) la).trans a12; go_simp; with_reducible rfl))
    | refine wpAnyH_take (i := 27) (v := undef) rfl (by kernel_rfl) (by kernel_rfl) (by kernel_rfl) (fun _ _ _ h => h) (Or.inr ⟨by rfl, rfl⟩) hHeld ?_
  try simp only [Act.put, List.getElem_toArray, List.getElem_cons_succ, List.getElem_cons_zero, List.setIfInBounds_toArray, List.set_cons_zero, List.set_cons_succ]
  refine wpAnyH_ready (rs := [28]) (by kernel_rfl) (by simp) ?_
  refine AllReadyH.cons rfl (fun K hK => ?_) AllReadyH.nil
  go_simp; have hasx := asked_nv (w1.heap.size + 1) n3 h3 _ (hv10.next hS) ok3; rw [wk_asked3] at hasx; refine hasx.mono ?_; rintro e wx ⟨rfl, hbx⟩; replace hS := hS.trans (hbx.mono hS.size); clear hasx hbx; try go_wp2_with fail
  refine hK.out _ _ ?_ (fun hHeld => ?_)
  · (try dsimp only); first | done | ((first | exact hS | skip))
  clear hK K
  try simp only [Act.put, List.getElem_toArray, List.getElem_cons_succ, List.getElem_cons_zero, List.setIfInBounds_toArray, List.set_cons_zero, List.set_cons_succ]
  first
    | (refine wpAnyH_take (i := 29) (v := ?_) rfl (by kernel_rfl) (by kernel_rfl) (by kernel_rfl) (fun _ _ _ h => h) (Or.inl ⟨by rfl, ?_⟩) hHeld ?_; rotate_left; (intro wq hSw; (try dsimp only at hSw); go_simp; done))
    | (refine wpAnyH_take (i := 29) (v := ?_) rfl (by kernel_rfl) (by kernel_rfl) (by kernel_rfl) (fun _ _ _ h => h) (Or.inl ⟨by rfl, ?_⟩) hHeld ?_; rotate_left; (intro wq hSw; (try dsimp only at hSw); go_simp; with_reducible rfl))
    | refine wpAnyH_take (i := 29) (v := undef) rfl (by kernel_rfl) (by kernel_rfl) (by kernel_rfl) (fun _ _ _ h => h) (Or.inr ⟨by rfl, rfl⟩) hHeld ?_
  try simp only [Act.put, List.getElem_toArray, List.getElem_cons_succ, List.getElem_cons_zero, List.setIfInBounds_toArray, List.set_cons_zero, List.set_cons_succ]
  first
    | (refine wpAnyH_take (i := 30) (v := ?_) rfl (by kernel_rfl) (by kernel_rfl) (by kernel_rfl) (fun _ _ _ h => h) (Or.inl ⟨by rfl, ?_⟩) hHeld ?_; rotate_left; (intro wq hSw; (try dsimp only at hSw); go_simp; done))
    | (refine wpAnyH_take (i := 30) (v := ?_) rfl (by kernel_rfl) (by kernel_rfl) (by kernel_rfl) (fun _ _ _ h => h) (Or.inl ⟨by rfl, ?_⟩) hHeld ?_; rotate_left; (intro wq hSw; (try dsimp only at hSw); go_simp; with_reducible rfl))
    | refine wpAnyH_take (i := 30) (v := undef) rfl (by kernel_rfl) (by kernel_rfl) (by kernel_rfl) (fun _ _ _ h => h) (Or.inr ⟨by rfl, rfl⟩) hHeld ?_
  try simp only [Act.put, List.getElem_toArray, List.getElem_cons_succ, List.getElem_cons_zero, List.setIfInBounds_toArray, List.set_cons_zero, List.set_cons_succ]
  first
    | (refine wpAnyH_take (i := 31) (v := ?_) rfl (by kernel_rfl) (by kernel_rfl) (by kernel_rfl) (fun _ _ _ h => h) (Or.inl ⟨by rfl, ?_⟩) hHeld ?_; rotate_left; (intro wq hSw; (try dsimp only at hSw); go_simp; done))
    | (refine wpAnyH_take (i := 31) (v := ?_) rfl (by kernel_rfl) (by kernel_rfl) (by kernel_rfl) (fun _ _ _ h => h) (Or.inl ⟨by rfl, ?_⟩) hHeld ?_; rotate_left; (intro wq hSw; (try dsimp only at hSw); go_simp; with_reducible rfl))
    | refine wpAnyH_take (i := 31) (v := undef) rfl (by kernel_rfl) (by kernel_rfl) (by kernel_rfl) (fun _ _ _ h => h) (Or.inr ⟨by rfl, rfl⟩) hHeld ?_
  try simp only [Act.put, List.getElem_toArray, List.getElem_cons_succ, List.getElem_cons_zero, List.setIfInBounds_toArray, List.set_cons_zero, List.set_cons_succ]
  first
    | (refine wpAnyH_take (i := 32) (v := ?_) rfl (by kernel_rfl) (by kernel_rfl) (by kernel_rfl) (fun _ _ _ h => h) (Or.inl ⟨by rfl, ?_⟩) hHeld ?_; rotate_left; (intro wq hSw; (try dsimp only at hSw); go_simp; done))
    | (refine wpAnyH_take (i := 32) (v := ?_) rfl (by kernel_rfl) (by kernel_rfl) (by kernel_rfl) (fun _ _ _ h => h) (Or.inl ⟨by rfl, ?_⟩) hHeld ?_; rotate_left; (intro wq hSw; (try dsimp only at hSw); go_simp; with_reducible rfl))
    | refine wpAnyH_take (i := 32) (v := undef) rfl (by kernel_rfl) (by kernel_rfl) (by kernel_rfl) (fun _ _ _ h => h) (Or.inr ⟨by rfl, rfl⟩) hHeld ?_
  try simp only [Act.put, List.getElem_toArray, List.getElem_cons_succ, List.getElem_cons_zero, List.setIfInBounds_toArray, List.set_cons_zero, List.set_cons_succ]
  first
    | (refine wpAnyH_take (i := 33) (v := ?_) rfl (by kernel_rfl) (by kernel_rfl) (by kernel_rfl) (fun _ _ _ h => h) (Or.inl ⟨by rfl, ?_⟩) hHeld ?_; rotate_left; (intro wq hSw; (try dsimp only at hSw); have v10 := (hSw.cell (p := ⟨w1.heap.size, 10, none⟩) la).trans a10; go_simp; done))
    | (refine wpAnyH_take (i := 33) (v := ?_) rfl (by kernel_rfl) (by kernel_rfl) (by kernel_rfl) (fun _ _ _ h => h) (Or.inl ⟨by rfl, ?_⟩) hHeld ?_; rotate_left; (intro wq hSw; (try dsimp only at hSw); have v10 := (hSw.cell (p := ⟨w1.heap.size, 10, none⟩) la).trans a10; go_simp; with_reducible rfl))
    | refine wpAnyH_take (i := 33) (v := undef) rfl (by kernel_rfl) (by kernel_rfl) (by kernel_rfl) (fun _ _ _ h => h) (Or.inr ⟨by rfl, rfl⟩) hHeld ?_
  try simp only [Act.put, List.getElem_toArray, List.getElem_cons_succ, List.getElem_cons_zero, List.setIfInBounds_toArray, List.set_cons_zero, List.set_cons_succ]
  first
    | (refine wpAnyH_take (i := 34) (v := ?_) rfl (by kernel_rfl) (by kernel_rfl) (by kernel_rfl) (fun _ _ _ h => h) (Or.inl ⟨by rfl, ?_⟩) hHeld ?_; rotate_left; (intro wq hSw; (try dsimp only at hSw); go_simp; done))
    | (refine wpAnyH_take (i := 34) (v := ?_) rfl (by kernel_rfl) (by kernel_rfl) (by kernel_rfl) (fun _ _ _ h => h) (Or.inl ⟨by rfl, ?_⟩) hHeld ?_; rotate_left; (intro wq hSw; (try dsimp only at hSw); go_simp; with_reducible rfl))
    | refine wpAnyH_take (i := 34) (v := undef) rfl (by kernel_rfl) (by kernel_rfl) (by kernel_rfl) (fun _ _ _ h => h) (Or.inr ⟨by rfl, rfl⟩) hHeld ?_
  try simp only [Act.put, List.getElem_toArray, List.getElem_cons_succ, List.getElem_cons_zero, List.setIfInBounds_toArray, List.set_cons_zero, List.set_cons_succ]
  first
    | (refine wpAnyH_take (i := 35) (v := ?_) rfl (by kernel_rfl) (by kernel_rfl) (by kernel_rfl) (fun _ _ _ h => h) (Or.inl ⟨by rfl, ?_⟩) hHeld ?_; rotate_left; (intro wq hSw; (try dsimp only at hSw); have hkk := HK3.out; go_simp; done))
    | (refine wpAnyH_take (i := 35) (v := ?_) rfl (by kernel_rfl) (by kernel_rfl) (by kernel_rfl) (fun _ _ _ h => h) (Or.inl ⟨by rfl, ?_⟩) hHeld ?_; rotate_left; (intro wq hSw; (try dsimp only at hSw); have hkk := HK3.out; go_simp; with_reducible rfl))
    | refine wpAnyH_take (i := 35) (v := undef) rfl (by kernel_rfl) (by kernel_rfl) (by kernel_rfl) (fun _ _ _ h => h) (Or.inr ⟨by rfl, rfl⟩) hHeld ?_
  try simp only [Act.put, List.getElem_toArray, List.getElem_cons_succ, List.getElem_cons_zero, List.setIfInBounds_toArray, List.set_cons_zero, List.set_cons_succ]
  first
    | (refine wpAnyH_take (i := 36) (v := ?_) rfl (by kernel_rfl) (by kernel_rfl) (by kernel_rfl) (fun _ _ _ h => h) (Or.inl ⟨by rfl, ?_⟩) hHeld ?_; rotate_left; (intro wq hSw; (try dsimp only at hSw); go_simp; done))
    | (refine wpAnyH_take (i := 36) (v := ?_) rfl (by kernel_rfl) (by kernel_rfl) (by kernel_rfl) (fun _ _ _ h => h) (Or.inl ⟨by rfl, ?_⟩) hHeld ?_; rotate_left; (intro wq hSw; (try dsimp only at hSw); go_simp; with_reducible rfl))
    | refine wpAnyH_take (i := 36) (v := undef) rfl (by kernel_rfl) (by kernel_rfl) (by kernel_rfl) (fun _ _ _ h => h) (Or.inr ⟨by rfl, rfl⟩) hHeld ?_
  try simp only [Act.put, List.getElem_toArray, List.getElem_cons_succ, List.getElem_cons_zero, List.setIfInBounds_toArray, List.set_cons_zero, List.set_cons_succ]
  first
    | (refine wpAnyH_take (i := 37) (v := ?_) rfl (by kernel_rfl) (by kernel_rfl) (by kernel_rfl) (fun _ _ _ h => h) (Or.inl ⟨by rfl, ?_⟩) hHeld ?_; rotate_left; (intro wq hSw; (try dsimp only at hSw); go_simp; done))
    | (refine wpAnyH_take (i := 37) (v := ?_) rfl (by kernel_rfl) (by kernel_rfl) (by kernel_rfl) (fun _ _ _ h => h) (Or.inl ⟨by rfl, ?_⟩) hHeld ?_; rotate_left; (intro wq hSw; (try dsimp only at hSw); go_simp; with_reducible rfl))
    | refine wpAnyH_take (i := 37) (v := undef) rfl (by kernel_rfl) (by kernel_rfl) (by kernel_rfl) (fun _ _ _ h => h) (Or.inr ⟨by rfl, rfl⟩) hHeld ?_
  try simp only [Act.put, List.getElem_toArray, List.getElem_cons_succ, List.getElem_cons_zero, List.setIfInBounds_toArray, List.set_cons_zero, List.set_cons_succ]
  first
    | (refine wpAnyH_take (i := 38) (v := ?_) rfl (by kernel_rfl) (by kernel_rfl) (by kernel_rfl) (fun _ _ _ h => h) (Or.inl ⟨by rfl, ?_⟩) hHeld ?_; rotate_left; (intro wq hSw; (try dsimp only at hSw); have v0 := (hSw.cell (p := ⟨w1.heap.size, 0, none⟩) la).trans a0; have v1 := (hSw.cell (p := ⟨w1.heap.size, 1, none⟩) la).trans a1; have v2 := (hSw.cell (p := ⟨w1.heap.size, 2, none⟩) la).trans a2; have v3 := (hSw.cell (p := ⟨w1.heap.size, 3, none⟩) la).trans a3; have v4 := (hSw.cell (p := ⟨w1.heap.size, 4, none⟩) la).trans a4; have v5 := (hSw.cell (p := ⟨w1.heap.size, 5, none⟩) la).trans a5; have v6 := (hSw.cell (p := ⟨w1.heap.size, 6, none⟩) la).trans a6; have v7 := (hSw.cell (p := ⟨w1.heap.size, 7, none⟩) la).trans a7; have v8 := (hSw.cell (p := ⟨w1.heap.size, 8, none⟩) la).trans a8; have v9 := (hSw.cell (p := ⟨w1.heap.size, 9, none⟩) la).trans a9; have v10 := (hSw.cell (p := ⟨w1.heap.size, 10, none⟩) la).trans a10; have v11 := (hSw.cell (p := ⟨w1.heap.size, 11, none⟩) la).trans a11; have v12 := (hSw.cell (p := ⟨w1.heap.size, 12, none⟩) la).trans a12; go_simp; done))
    | (refine wpAnyH_take (i := 38) (v := ?_) rfl (by kernel_rfl) (by kernel_rfl) (by kernel_rfl) (fun _ _ _ h => h) (Or.inl ⟨by rfl, ?_⟩) hHeld ?_; rotate_left; (intro wq hSw; (try dsimp only at hSw); have v0 := (hSw.cell (p := ⟨w1.heap.size, 0, none⟩) la).trans a0; have v1 := (hSw.cell (p := ⟨w1.heap.size, 1, none⟩) la).trans a1; have v2 := (hSw.cell (p := ⟨w1.heap.size, 2, none⟩) la).trans a2; have v3 := (hSw.cell (p := ⟨w1.heap.size, 3, none⟩) la).trans a3; have v4 := (hSw.cell (p := ⟨w1.heap.size, 4, none⟩) la).trans a4; have v5 := (hSw.cell (p := ⟨w1.heap.size, 5, none⟩) la).trans a5; have v6 := (hSw.cell (p := ⟨w1.heap.size, 6, none⟩) la).trans a6; have v7 := (hSw.cell (p := ⟨w1.heap.size, 7, none⟩) la).trans a7; have v8 := (hSw.cell (p := ⟨w1.heap.size, 8, none⟩) la).trans a8; have v9 := (hSw.cell (p := ⟨w1.heap.size, 9, none⟩) la).trans a9; have v10 := (hSw.cell (p := ⟨w1.heap.size, 10, none⟩) la).trans a10; have v11 := (hSw.cell (p := ⟨w1.heap.size, 11, none⟩) la).trans a11; have v12 := (hSw.cell (p := ⟨w1.heap.size, 12, none⟩) la).trans a12; go_simp; with_reducible rfl))
    | refine wpAnyH_take (i := 38) (v := undef) rfl (by kernel_rfl) (by kernel_rfl) (by kernel_rfl) (fun _ _ _ h => h) (Or.inr ⟨by rfl, rfl⟩) hHeld ?_
  try simp only [Act.put, List.getElem_toArray, List.getElem_cons_succ, List.getElem_cons_zero, List.setIfInBounds_toArray, List.set_cons_zero, List.set_cons_succ]
  refine wpAnyH_ready (rs := [39]) (by kernel_rfl) (by simp) ?_
  refine AllReadyH.cons rfl (fun K hK => ?_) AllReadyH.nil
  go_simp; refine (Over_any h3 _).mono ?_; rw [HO3.out]; rintro e wx ⟨rfl, hbx⟩; replace hS := hS.trans (hbx.mono hS.size); clear hbx; try go_wp2_with fail
  refine hK.out _ _ ?_ (fun hHeld => ?_)
  · (try dsimp only); first | done | ((first | exact hS | skip))
  clear hK K
  try simp only [Act.put, List.getElem_toArray, List.getElem_cons_succ, List.getElem_cons_zero, List.setIfInBounds_toArray, List.set_cons_zero, List.set_cons_succ]
  first
    | (refine wpAnyH_take (i := 40) (v := ?_) rfl (by kernel_rfl) (by kernel_rfl) (by kernel_rfl) (fun _ _ _ h => h) (Or.inl ⟨by rfl, ?_⟩) hHeld ?_; rotate_left; (intro wq hSw; (try dsimp only at hSw); go_simp; done))
    | (refine wpAnyH_take (i := 40) (v := ?_) rfl (by kernel_rfl) (by kernel_rfl) (by kernel_rfl) (fun _ _ _ h => h) (Or.inl ⟨by rfl, ?_⟩) hHeld ?_; rotate_left; (intro wq hSw; (try dsimp only at hSw); go_simp; with_reducible rfl))
    | refine wpAnyH_take (i := 40) (v := undef) rfl (by kernel_rfl) (by kernel_rfl) (by kernel_rfl) (fun _ _ _ h => h) (Or.inr ⟨by rfl, rfl⟩) hHeld ?_
  try simp only [Act.put, List.getElem_toArray, List.getElem_cons_succ, List.getElem_cons_zero, List.setIfInBounds_toArray, List.set_cons_zero, List.set_cons_succ]
  first
    | (refine wpAnyH_take (i := 41) (v := ?_) rfl (by kernel_rfl) (by kernel_rfl) (by kernel_rfl) (fun _ _ _ h => h) (Or.inl ⟨by rfl, ?_⟩) hHeld ?_; rotate_left; (intro wq hSw; (try dsimp only at hSw); go_simp; done))
    | (refine wpAnyH_take (i := 41) (v := ?_) rfl (by kernel_rfl) (by kernel_rfl) (by kernel_rfl) (fun _ _ _ h => h) (Or.inl ⟨by rfl, ?_⟩) hHeld ?_; rotate_left; (intro wq hSw; (try dsimp only at hSw); go_simp; with_reducible rfl))
    | refine wpAnyH_take (i := 41) (v := undef) rfl (by kernel_rfl) (by kernel_rfl) (by kernel_rfl) (fun _ _ _ h => h) (Or.inr ⟨by rfl, rfl⟩) hHeld ?_
  try simp only [Act.put, List.getElem_toArray, List.getElem_cons_succ, List.getElem_cons_zero, List.setIfInBounds_toArray, List.set_cons_zero, List.set_cons_succ]
  first
    | (refine wpAnyH_take (i := 42) (v := ?_) rfl (by kernel_rfl) (by kernel_rfl) (by kernel_rfl) (fun _ _ _ h => h) (Or.inl ⟨by rfl, ?_⟩) hHeld ?_; rotate_left; (intro wq hSw; (try dsimp only at hSw); go_simp; done))
    | (refine wpAnyH_take (i := 42) (v := ?_) rfl (by kernel_rfl) (by kernel_rfl) (by kernel_rfl) (fun _ _ _ h => h) (Or.inl ⟨by rfl, ?_⟩) hHeld ?_; rotate_left; (intro wq hSw; (try dsimp only at hSw); go_simp; with_reducible rfl))
    | refine wpAnyH_take (i := 42) (v := undef) rfl (by kernel_rfl) (by kernel_rfl) (by kernel_rfl) (fun _ _ _ h => h) (Or.inr ⟨by rfl, rfl⟩) hHeld ?_
  try simp only [Act.put, List.getElem_toArray, List.getElem_cons_succ, List.getElem_cons_zero, List.setIfInBounds_toArray, List.set_cons_zero, List.set_cons_succ]
  refine wpAnyH_done (by kernel_rfl) ?_ _
  have hfin := hb11.trans (hS.mono hb11.size); go_wp2_with fail; go_ret; exact ⟨rfl, hfin⟩
end Go.Proofs.Ytfahmfaakjnpcaa
