/-
  The statements' own example of chapter 21, and their question whether rows are too great. Conditions: none.
-/
import Derived.Test.YtepofpbpolenlaaIdleRef2
import Derived.Test.YtepofpbpolenlaaLineRef
namespace Go.Proofs.Ytepofpbpolenlaa
open Go.RowKit Go.Shelf

set_option maxRecDepth 100000 in
set_option maxHeartbeats 2000000 in
theorem wakes21_any (w : World) : Calls Try.prog 8 #[] w fun e w' => e = .returned (.bool true) ∧ Below w.heap.size w w' := by
  go_enter Try.func8, Try.ntmps8
  go_wp2_with fail
  refine (Put_any none 0 0 [] 1 5 _ 2 _ [3, 4] _ (Recs.nil_ _ _ _) (by omega) ((Ints.at2_ _ _ 3 4 _ rfl).more (by simp)) (by omega)).mono ?_
  rw [show putM 0 1 2 = 1 by decide, show putE 0 1 2 = 230 by decide, show ([] : List Re) ++ putRow ([3, 4].take 1) 5 = [(3, 5)] by decide]
  rintro e w1 ⟨A1, c1, rfl, ho1, hb1⟩
  have hb1' : Below w.heap.size w w1 := (Below.new_ _ _).trans (hb1.mono (by simp))
  have hr1 := ho1.recs
  have hc1 := ho1.2.2.1
  clear hb1 ho1
  go_wp2_with fail
  refine (Last_any _ _ _ [(3, 5)] _ hr1 (by omega) hc1).mono ?_
  rw [show lastRe [(3, 5)] = (3, 5) by decide]
  rintro e w2 ⟨A2, c2, rfl, ho2, hb2⟩
  have hb2' := hb1'.trans (hb2.mono hb1'.size)
  replace hr1 := (hr1.below hb2).more hb2.size
  clear ho2 hb2 hb1'
  go_wp2_with fail
  refine (When_any _ _ _ [(3, 5)] 2 _ ((hr1.alloc (Nat.le_refl _) _).more (by first | omega | (simp; done) | (simp; omega))) (by omega)).mono ?_
  rw [show (firstOf (endsOf [(3, 5)] 2)).2 = 7 by decide]
  rintro e w3 ⟨rfl, hb3⟩
  have hb3a := (Below.new_ w2 (.cells #[.int .i64 3, .int .i64 5] 32)).trans (hb3.mono (by simp))
  have hk1 : w3.heap[w2.heap.size]? = some (.cells #[.int .i64 3, .int .i64 5] 32 (0, 0)) := (hb3.block w2.heap.size (by simp)).trans (heap_alloc_new w2 _)
  have hlt : w2.heap.size < w3.heap.size := by have := hb3.size; simp at this; omega
  have hb3' := hb2'.trans (hb3a.mono hb2'.size)
  replace hr1 := (hr1.below hb3a).more hb3a.size
  clear hb3 hb3a hb2'
  have HK := Lib.hid hk1
  clear hk1
  go_wp2_with fail
  refine (Old_row _ _ _ [(3, 5)] 2 7 _ hr1 (by omega)).mono ?_
  rw [show [(3, 5)].filter (oldR 2 7) = [(3, 5)] by decide]
  rintro e w4 ⟨A4, c4, A5, c5, rfl, ho4, ho5, hb4⟩
  have hb4' := hb3'.trans (hb4.mono hb3'.size)
  replace hr1 := (hr1.below hb4).more hb4.size
  have hk4 : w4.heap[w2.heap.size]? = some (.cells #[.int .i64 3, .int .i64 5] 32 (0, 0)) := (hb4.block _ hlt).trans HK.out
  obtain ⟨q1, q2, _, _⟩ := two_cells hk4
  have hE := fun wx => eqRe (3, 5) (3, 5) wx
  rw [show decide (((3, 5) : Re) = (3, 5)) = true by decide] at hE
  unfold valRe at hE
  clear hb4 hb3' ho4 ho5 hk4
  go_wp2_with fail
  refine (Has_row _ _ _ [(3, 5)] _ _ _ [3] _ ((hr1.alloc (Nat.le_refl _) _).more (by simp)) (by omega) ((Ints.at1_ _ _ 3 _ rfl).more (by simp)) (by omega)).mono ?_
  rw [show hasAll [(3, 5)] [3] = true by decide]
  rintro e w5 ⟨rfl, hb5⟩
  have hb5a := (Below.new_ w4 (.cells #[.int .i64 3] 3)).trans (hb5.mono (by simp))
  have hb5' := hb4'.trans (hb5a.mono hb4'.size)
  replace hr1 := (hr1.below hb5a).more hb5a.size
  clear hb5 hb5a hb4'
  go_wp2_with fail
  refine (Has_row _ _ _ [(3, 5)] _ _ _ [4] _ ((hr1.alloc (Nat.le_refl _) _).more (by simp)) (by omega) ((Ints.at1_ _ _ 4 _ rfl).more (by simp)) (by omega)).mono ?_
  rw [show hasAll [(3, 5)] [4] = false by decide]
  rintro e w6 ⟨rfl, hb6⟩
  have hb6' := hb5'.trans ((((Below.new_ w5 (.cells #[.int .i64 4] 3)).trans (hb6.mono (by simp)))).mono hb5'.size)
  clear hb6 hb5' hr1
  go_wp2_with fail
  go_ret
  exact ⟨rfl, hb6'⟩

theorem rSame21_same (A1 A2 : Option Addr) (n1 n2 c1 c2 B1 B2 : Nat) (a : List Re) (w : World) (ha : Res w B1 A1 n1 a) (hb : Res w B2 A2 n2 a) (hn1 : n1 ≤ 100000) (hn2 : n2 ≤ 100000) :
    Calls Try.prog 19 #[.slice A1 n1 c1, .slice A2 n2 c2] w fun e w' => e = .returned (.bool true) ∧ Below w.heap.size w w' :=
  (rSame21_any A1 A2 n1 n2 c1 c2 B1 B2 a a w ha hb hn1 hn2).mono fun e w' ⟨h1, h2⟩ => ⟨by rw [h1]; simp, h2⟩
theorem rSame4_same (A1 A2 : Option Addr) (n1 n2 c1 c2 B1 B2 : Nat) (a : List Int) (w : World) (ha : Ints w B1 A1 n1 a) (hb : Ints w B2 A2 n2 a) (hn1 : n1 ≤ 100000) (hn2 : n2 ≤ 100000) :
    Calls Try.prog 10 #[.slice A1 n1 c1, .slice A2 n2 c2] w fun e w' => e = .returned (.bool true) ∧ Below w.heap.size w w' :=
  (rSame4_any A1 A2 n1 n2 c1 c2 B1 B2 a a w ha hb hn1 hn2).mono fun e w' ⟨h1, h2⟩ => ⟨by rw [h1]; simp [sameB], h2⟩
theorem great21_any (A1 A2 : Option Addr) (n1 n2 c1 c2 : Nat) (w : World) (h1 : n1 ≤ 9223372036854775807) (h2 : n2 ≤ 9223372036854775807) :
    Calls Try.prog 14 #[.slice A1 n1 c1, .slice A2 n2 c2] w fun e w' => e = .returned (.bool (decide (100 < n1) || decide (100 < n2))) ∧ w = w' := by
  by_cases g1 : 100 < n1
  · have d1 : decide ((100 : Int) < (n1 : Int)) = true := by simp; omega
    have d2 : (decide (100 < n1) || decide (100 < n2)) = true := by simp [g1]
    have D2 := Lib.hid d2
    clear d2
    go_enter Try.func14, Try.ntmps14
    go_wp2
    go_ret
    exact ⟨ret_bool D2.out.symm, rfl⟩
  · have d1 : decide ((100 : Int) < (n1 : Int)) = false := by simp; omega
    have d2 : (decide (100 < n1) || decide (100 < n2)) = decide ((100 : Int) < (n2 : Int)) := by
      have : decide (100 < n1) = false := by simpa using g1
      rw [this, Bool.false_or, Bool.eq_iff_iff]
      simp; omega
    have D2 := Lib.hid d2
    clear d2
    go_enter Try.func14, Try.ntmps14
    go_wp2
    go_ret
    exact ⟨ret_bool D2.out.symm, rfl⟩
end Go.Proofs.Ytepofpbpolenlaa
