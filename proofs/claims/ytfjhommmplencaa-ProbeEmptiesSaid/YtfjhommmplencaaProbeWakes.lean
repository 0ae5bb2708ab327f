/-
  The statements' own example of chapter 22, and their question whether rows are too great. Conditions: none.
-/
import Derived.Test.YtfjhommmplencaaProbe2
import Derived.Test.YtfjhommmplencaaProbe3
namespace Go.Proofs.Ytfjhommmplencaa
open Go.RowKit Go.Shelf

theorem Great22_any (A1 A2 : Option Addr) (n1 n2 c1 c2 : Nat) (w : World) (h1 : n1 ≤ 9223372036854775807) (h2 : n2 ≤ 9223372036854775807) :
    Calls Try.prog 7 #[.slice A1 n1 c1, .slice A2 n2 c2] w fun e w' => e = .returned (.bool (decide (100 < n1) || decide (100 < n2))) ∧ w = w' := by
  by_cases g1 : 100 < n1
  · have d1 : decide ((100 : Int) < (n1 : Int)) = true := by simp; omega
    have d2 : (decide (100 < n1) || decide (100 < n2)) = true := by simp [g1]
    have D2 := Lib.hid d2
    clear d2
    go_enter Try.func7, Try.ntmps7
    go_wp2
    go_ret
    exact ⟨ret_bool D2.out.symm, rfl⟩
  · have d1 : decide ((100 : Int) < (n1 : Int)) = false := by simp; omega
    have d2 : (decide (100 < n1) || decide (100 < n2)) = decide ((100 : Int) < (n2 : Int)) := by
      have : decide (100 < n1) = false := by simpa using g1
      rw [this, Bool.false_or, Bool.eq_iff_iff]
      simp; omega
    have D2 := Lib.hid d2
    clear d2
    go_enter Try.func7, Try.ntmps7
    go_wp2
    go_ret
    exact ⟨ret_bool D2.out.symm, rfl⟩
def rows3 : List Re := [(0, 1), (1, 3), (2, 4)]
theorem rSame4_same (A1 A2 : Option Addr) (n c1 c2 B1 B2 : Nat) (a : List Int) (w : World) (ha : Ints w B1 A1 n a) (hb : Ints w B2 A2 n a) (hn : n ≤ 100000) :
    Calls Try.prog 15 #[.slice A1 n c1, .slice A2 n c2] w fun e w' => e = .returned (.bool true) ∧ Below w.heap.size w w' :=
  (rSame4_any A1 A2 n n c1 c2 B1 B2 a a w ha hb hn hn).mono fun e w' ⟨h1, h2⟩ => ⟨by rw [h1]; simp [sameB], h2⟩
set_option maxRecDepth 100000 in
set_option maxHeartbeats 2000000 in
theorem wakes22_any (w : World) : Calls Try.prog 8 #[] w fun e w' => e = .returned (.bool true) ∧ Below w.heap.size w w' := by
  have hG : Hid (goodL rows3 [2] 3 5 = [(1, 3)]) := (by show _ = _; decide)
  have hO : Hid (outL rows3 [2] 3 5 = [0, 2]) := (by show _ = _; decide)
  have hJ : Hid (topJ rows3 [2] 3 5 = 2) := (by show _ = _; decide)
  have hF : Hid ((firstOf (endsOf rows3 3)).2 = 4) := (by show _ = _; decide)
  have hb := Below.new_ w (.cells #[.int .i64 0, .int .i64 1, .int .i64 1, .int .i64 3, .int .i64 2, .int .i64 4] 26)
  have rl : Res (w.alloc (.cells #[.int .i64 0, .int .i64 1, .int .i64 1, .int .i64 3, .int .i64 2, .int .i64 4] 26)) (w.heap.size + 1) (some ⟨w.heap.size, 0, none⟩) 3 rows3 := Res.new3 w _ rfl (0, 1) (1, 3) (2, 4) _
  go_enter Try.func8, Try.ntmps8
  go_wp2_with fail
  refine (Sift_any _ 3 _ rows3 3 5 _ 1 1 [2] _ ((rl.alloc (by first | omega | (simp; done) | (simp; omega)) _).more (by first | omega | (simp; done) | (simp; omega))) (by omega) ((Ints.at1_ _ _ 2 _ (by first | omega | (simp; done) | (simp; omega))).more (by first | omega | (simp; done) | (simp; omega))) (by omega)).mono ?_
  rw [hG.out, hO.out, show ([(1, 3)] : List Re).length = 1 from rfl, show ([0, 2] : List Int).length = 2 from rfl]
  rintro e w1 ⟨A1, c1, A2, c2, rfl, o1, o2, hb1⟩
  have r1 := o1.recs
  have r2 := o2.ints
  replace hb := (hb.alloc (by simp) (.cells #[.int .i64 2] 3)).trans (hb1.mono (by first | omega | (simp; done) | (simp; omega)))
  replace rl := ((rl.alloc (by first | omega | (simp; done) | (simp; omega)) (.cells #[.int .i64 2] 3)).more (B' := ((w.alloc (.cells #[.int .i64 0, .int .i64 1, .int .i64 1, .int .i64 3, .int .i64 2, .int .i64 4] 26)).alloc (.cells #[.int .i64 2] 3)).heap.size) (by first | omega | (simp; done) | (simp; omega))).below hb1 |>.more hb1.size
  clear hb1 o1 o2
  go_wp2_with fail
  refine (Top_any _ 3 _ rows3 3 5 _ 1 1 [2] _ ((rl.alloc (by first | omega | (simp; done) | (simp; omega)) _).more (by first | omega | (simp; done) | (simp; omega))) (by omega) (by omega) ((Ints.at1_ _ _ 2 _ (by first | omega | (simp; done) | (simp; omega))).more (by first | omega | (simp; done) | (simp; omega))) (by omega)).mono ?_
  rw [hJ.out, show topS rows3 2 = 1 by decide, show topO rows3 2 = [2] by decide, show rows3.take (2 - 1) = [(0, 1)] by decide, show 2 - 1 = 1 from rfl, show decide (0 < 2) = true from rfl]
  rintro e w2 ⟨A3, c3, A4, c4, rfl, o3, o4, hb1⟩
  replace hb1 := (Below.new_ w1 (.cells #[.int .i64 2] 3)).trans (hb1.mono (by first | omega | (simp; done) | (simp; omega)))
  have r3 := o3.recs
  have r4 := o4.ints
  replace hb := hb.trans (hb1.mono hb.size)
  replace rl := (rl.below hb1).more hb1.size
  replace r1 := (r1.below hb1).more hb1.size
  replace r2 := (r2.below hb1).more hb1.size
  clear hb1 o3 o4
  go_wp2_with fail
  refine (When_any _ 3 _ rows3 3 _ rl (by omega)).mono ?_
  rw [hF.out]
  rintro e w3 ⟨rfl, hb1⟩
  replace hb := hb.trans (hb1.mono hb.size)
  replace r1 := (r1.below hb1).more hb1.size
  replace r2 := (r2.below hb1).more hb1.size
  replace r3 := (r3.below hb1).more hb1.size
  replace r4 := (r4.below hb1).more hb1.size
  clear hb1 rl
  obtain ⟨b1, off1, x1, rfl, hbb1, hx1, q1, q2⟩ := Res.cells r1 (i := 0) (by omega)
  obtain rfl : x1 = (1, 3) := by have := hx1.out; simp at this; exact this.symm
  obtain ⟨b3, off3, x3, rfl, hbb3, hx3, q3, q4⟩ := Res.cells r3 (i := 0) (by omega)
  obtain rfl : x3 = (0, 1) := by have := hx3.out; simp at this; exact this.symm
  simp only [Nat.zero_mul, Nat.add_zero] at q1 q2 q3 q4
  go_wp2_with fail
  refine (rSame4_same _ _ 2 _ _ _ _ [0, 2] _ (r2.alloc (Nat.le_refl _) _) (Ints.at2_ _ _ 0 2 _ (by first | omega | (simp; done) | (simp; omega))) (by omega)).mono ?_
  rintro e w4 ⟨rfl, hb1⟩
  replace hb1 := (Below.new_ w3 (.cells #[.int .i64 0, .int .i64 2] 3)).trans (hb1.mono (by first | omega | (simp; done) | (simp; omega)))
  replace hb := hb.trans (hb1.mono hb.size)
  replace r4 := (r4.below hb1).more hb1.size
  replace q3 := (hb1.cell (p := ⟨b3, off3, none⟩) hbb3).trans q3
  replace q4 := (hb1.cell (p := ⟨b3, off3 + 1, none⟩) hbb3).trans q4
  replace hbb3 := Nat.lt_of_lt_of_le hbb3 hb1.size
  clear hb1 r1 r2 r3 q1 q2
  go_wp2_with fail
  refine (rSame4_same _ _ 1 _ _ _ _ [2] _ (r4.alloc (Nat.le_refl _) _) (Ints.at1_ _ _ 2 _ (by first | omega | (simp; done) | (simp; omega))) (by omega)).mono ?_
  rintro e w5 ⟨rfl, hb1⟩
  replace hb1 := (Below.new_ w4 (.cells #[.int .i64 2] 3)).trans (hb1.mono (by first | omega | (simp; done) | (simp; omega)))
  replace hb := hb.trans (hb1.mono hb.size)
  replace q3 := (hb1.cell (p := ⟨b3, off3, none⟩) hbb3).trans q3
  replace q4 := (hb1.cell (p := ⟨b3, off3 + 1, none⟩) hbb3).trans q4
  clear hb1 r4
  go_wp2_with fail
  go_ret
  exact ⟨rfl, hb⟩
end Go.Proofs.Ytfjhommmplencaa
