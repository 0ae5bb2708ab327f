/-
  What probe.Sift computes, and the document's Sift of chapter 22. Conditions: the slice arguments read as lists of at most 1000.
-/
import Derived.Test.YtfjhommmplencaaProbe
namespace Go.Proofs.Ytfjhommmplencaa
open Go.RowKit Go.Shelf

set_option maxRecDepth 100000 in
set_option maxHeartbeats 2000000 in
theorem Sift_any (A : Option Addr) (n c : Nat) (l : List Re) (long now : Int) (As : Option Addr) (ns cs : Nat) (dead : List Int) (w : World) (hl : Res w w.heap.size A n l) (hn : n ≤ 1000) (hs : Ints w w.heap.size As ns dead) (hns : ns ≤ 1000) :
    Calls Try.prog 10 #[.slice A n c, .int .i64 long, .int .i64 now, .slice As ns cs] w fun e w' => ∃ A1 c1 A2 c2, e = .returned (.tuple #[.slice A1 (goodL l dead long now).length c1, .slice A2 (outL l dead long now).length c2]) ∧
      OwRe w' w.heap.size A1 (goodL l dead long now).length c1 (goodL l dead long now) ∧ OwI w' w.heap.size 3 A2 (outL l dead long now).length c2 (outL l dead long now) ∧ Below w.heap.size w w' := by
  have eg := eg_spent
  have HL := Lib.hid hl.1
  go_enter Try.func10, Try.ntmps10
  go_wp2_with fail
  refine (spent_any _ _ _ _ _ dead _ hs hns).mono ?_
  rintro e w1 ⟨caps, rfl, hcap, hb1⟩
  go_wp2_with fail
  go_loopw [8, 9, 19] (fun s8 s9 s19 wr => ∃ (k m1 m2 : Nat) (A1 : Option Addr) (c1 : Nat) (A2 : Option Addr) (c2 : Nat), k ≤ n ∧ m1 ≤ k ∧ m2 ≤ k ∧ s19 = .int .i64 k ∧ s8 = .slice A1 m1 c1 ∧ s9 = .slice A2 m2 c2 ∧ OwRe wr w1.heap.size A1 m1 c1 (goodL (l.take k) dead long now) ∧ OwI wr w1.heap.size 3 A2 m2 c2 (outL (l.take k) dead long now) ∧ Below w1.heap.size w1 wr) (fun _ _ s19 _ => n - (intOf s19).toNat)
  case atStart => exact ⟨0, 0, 0, none, 0, none, 0, Nat.zero_le _, Nat.zero_le _, Nat.zero_le _, rfl, rfl, rfl, OwR.nil_ _ _ _ _, OwI.nil_ _ _ _ _, Below.refl _ _⟩
  case round =>
    obtain ⟨k, m1, m2, A1, c1, A2, c2, hk, hm1, hm2, rfl, rfl, rfl, o1, o2, hb⟩ := hrel
    have hbw := hb1.trans (hb.mono hb1.size)
    by_cases hlt : k < n
    · obtain ⟨b, off, x, rfl, hbb, hx, hc1, hc2⟩ := Res.cells (hl.below hbw) hlt
      have hbX := hbw.alloc hbw.size (.cells #[.int .i64 x.1, .int .i64 x.2] 26)
      have hbY := hb.alloc hb.size (.cells #[.int .i64 x.1, .int .i64 x.2] 26)
      have hcall := spentC_any x caps dead long now (wr.alloc (.cells #[.int .i64 x.1, .int .i64 x.2] 26)) (hcap.below hbY)
      have g1 := goodL_snoc dead long now hx.out
      have g2 := outL_snoc dead long now hx.out
      have o1x := o1.alloc (.cells #[.int .i64 x.1, .int .i64 x.2] 26)
      have o2x := o2.alloc (.cells #[.int .i64 x.1, .int .i64 x.2] 26)
      clear o1 o2 hb
      cases hp : spentR dead long now x
      · rw [hp] at hcall g1 g2
        simp only [Bool.false_eq_true, if_false] at g1 g2
        have HG1 := Lib.hid g1
        have HG2 := Lib.hid g2
        clear g1 g2 hp
        go_upto_region 7 with (go_at_fn 33; refine hcall.mono ?_; rintro e w2 ⟨rfl, hb2⟩)
        have hk1 : w2.heap[wr.heap.size]? = some (.cells #[.int .i64 x.1, .int .i64 x.2] 26 (0, 0)) := (hb2.block wr.heap.size (by simp)).trans (heap_alloc_new wr _)
        obtain ⟨q0, q1, _, _⟩ := two_cells hk1
        have lw : wr.heap.size < w2.heap.size := by have := hb2.size; simp at this; omega
        replace hbX := hbX.trans (hb2.mono hbX.size)
        replace hbY := hbY.trans (hb2.mono hbY.size)
        replace o1x := OwR.below o1x hb2
        replace o2x := OwI.below o2x hb2
        clear hcall hb2 hk1 hbw
        have hap := row_apart o2x o1x.2 (by decide)
        go_wp2_with (at_builtin; refine wpList_appRe _ rfl (.tmp 31) (.tmp 33) rfl w1.heap.size _ _ _ _ rfl (o1x.alloc _) _ _ _ _ [x] rfl (Res.new1 _ _ (by simp) x _) (by omega) (by have := hbY.size; simp; omega) ?_; intro A3 c3 w3 ho3 hg3 hr3)
        have hbw3 : Below w1.heap.size w1 w3 := (hbY.alloc hbY.size _).grown hg3 (by have := hbY.size; simp; omega) (fun g hg => (Ow.row o1x.2 g hg).1)
        have ho4 : OwI w3 w1.heap.size 3 A2 m2 c2 (outL (l.take k) dead long now) := Ow.kept (Ow.alloc o2x _) hg3 hap
        rw [← HG1.out] at ho3
        rw [← HG2.out] at ho4
        clear hg3 hr3 q0 q1
        go_wp2_with fail
        go_roundw
        case rel => exact ⟨k + 1, m1 + 1, m2, A3, c3, A2, c2, by omega, by omega, by omega, by go_num, rfl, rfl, ho3, ho4, hbw3⟩
        case measure => simp [intOf]; omega
      · rw [hp] at hcall g1 g2
        simp only [if_true] at g1 g2
        have HG1 := Lib.hid g1
        have HG2 := Lib.hid g2
        clear g1 g2 hp
        go_upto_region 6 with (go_at_fn 33; refine hcall.mono ?_; rintro e w2 ⟨rfl, hb2⟩)
        have hk1 : w2.heap[wr.heap.size]? = some (.cells #[.int .i64 x.1, .int .i64 x.2] 26 (0, 0)) := (hb2.block wr.heap.size (by simp)).trans (heap_alloc_new wr _)
        obtain ⟨q0, q1, _, _⟩ := two_cells hk1
        have lw : wr.heap.size < w2.heap.size := by have := hb2.size; simp at this; omega
        replace hbX := hbX.trans (hb2.mono hbX.size)
        replace hbY := hbY.trans (hb2.mono hbY.size)
        replace o1x := OwR.below o1x hb2
        replace o2x := OwI.below o2x hb2
        clear hcall hb2 hk1 hbw
        have hap := row_apart o1x.2 o2x (by decide)
        go_wp2_with (at_builtin; refine wpList_appI _ rfl (.tmp 26) (.tmp 29) rfl w1.heap.size _ _ _ _ rfl (o2x.alloc _) _ _ _ _ [x.1] rfl (Ints.at1_ _ _ _ _ (by first | omega | (simp; done) | (simp; omega))) (by omega) (by have := hbY.size; simp; omega) ?_; intro A3 c3 w3 ho3 hg3 hr3)
        have hbw3 : Below w1.heap.size w1 w3 := (hbY.alloc hbY.size _).grown hg3 (by have := hbY.size; simp; omega) (fun g hg => (Ow.row o2x g hg).1)
        have ho4 : OwRe w3 w1.heap.size A1 m1 c1 (goodL (l.take k) dead long now) := ⟨o1x.1, Ow.kept (Ow.alloc o1x.2 _) hg3 hap⟩
        rw [← HG2.out] at ho3
        rw [← HG1.out] at ho4
        clear hg3 hr3 q0 q1
        go_wp2_with fail
        go_roundw
        case rel => exact ⟨k + 1, m1, m2 + 1, A1, c1, A3, c3, by omega, by omega, by omega, by go_num, rfl, rfl, ho4, ho3, hbw3⟩
        case measure => simp [intOf]; omega
    · obtain rfl : k = n := by omega
      have ht : l.take k = l := List.take_of_length_le (by rw [HL.out]; omega)
      rw [ht] at o1 o2
      have H1 := Lib.hid o1.1
      have H2 := Lib.hid o2.len
      clear ht
      go_wp2_with fail
      go_ret2
      exact ⟨A1, c1, A2, c2, by rw [H1.out, H2.out]; rfl, by rw [H1.out]; exact ⟨o1.1, Ow.rebase o1.2 hb1.size⟩, by rw [H2.out]; exact Ow.rebase o2 hb1.size, hbw⟩

set_option maxRecDepth 100000 in
set_option maxHeartbeats 2000000 in
theorem rSift_any (A : Option Addr) (n c : Nat) (l : List Re) (long now : Int) (As : Option Addr) (ns cs : Nat) (dead : List Int) (w : World) (hl : Res w w.heap.size A n l) (hn : n ≤ 1000) (hs : Ints w w.heap.size As ns dead) (hns : ns ≤ 1000) :
    Calls Try.prog 14 #[.slice A n c, .int .i64 long, .int .i64 now, .slice As ns cs] w fun e w' => ∃ A1 c1 A2 c2, e = .returned (.tuple #[.slice A1 (goodL l dead long now).length c1, .slice A2 (outL l dead long now).length c2]) ∧
      OwRe w' w.heap.size A1 (goodL l dead long now).length c1 (goodL l dead long now) ∧ OwI w' w.heap.size 3 A2 (outL l dead long now).length c2 (outL l dead long now) ∧ Below w.heap.size w w' := by
  have HL := Lib.hid hl.1
  go_enter Try.func14, Try.ntmps14
  go_wp2_with fail
  go_loopw [10, 11, 12] (fun s8 s9 s19 wr => ∃ (k m1 m2 : Nat) (A1 : Option Addr) (c1 : Nat) (A2 : Option Addr) (c2 : Nat), k ≤ n ∧ m1 ≤ k ∧ m2 ≤ k ∧ s19 = .int .i64 k ∧ s8 = .slice A1 m1 c1 ∧ s9 = .slice A2 m2 c2 ∧ OwRe wr w.heap.size A1 m1 c1 (goodL (l.take k) dead long now) ∧ OwI wr w.heap.size 3 A2 m2 c2 (outL (l.take k) dead long now) ∧ Below w.heap.size w wr) (fun _ _ s19 _ => n - (intOf s19).toNat)
  case atStart => exact ⟨0, 0, 0, none, 0, none, 0, Nat.zero_le _, Nat.zero_le _, Nat.zero_le _, rfl, rfl, rfl, OwR.nil_ _ _ _ _, OwI.nil_ _ _ _ _, Below.refl _ _⟩
  case round =>
    obtain ⟨k, m1, m2, A1, c1, A2, c2, hk, hm1, hm2, rfl, rfl, rfl, o1, o2, hb⟩ := hrel
    by_cases hlt : k < n
    · obtain ⟨b, off, x, rfl, hbb, hx, hc1, hc2⟩ := Res.cells (hl.below hb) hlt
      have hcall := rSpent_any x long now As ns cs dead wr ((hs.below hb).more hb.size) hns
      have g1 := goodL_snoc dead long now hx.out
      have g2 := outL_snoc dead long now hx.out
      cases hp : spentR dead long now x
      · rw [hp] at hcall g1 g2
        simp only [Bool.false_eq_true, if_false] at g1 g2
        have HG1 := Lib.hid g1
        have HG2 := Lib.hid g2
        clear g1 g2 hp
        go_upto_region 8 with (go_at_call 17; refine hcall.mono ?_; rintro e w2 ⟨rfl, hb2⟩)
        replace hb := hb.trans (hb2.mono hb.size)
        obtain ⟨q0, q1⟩ : w2.cell? ⟨b, off + k * 2, none⟩ = some (.int .i64 x.1) ∧ w2.cell? ⟨b, off + k * 2 + 1, none⟩ = some (.int .i64 x.2) := ⟨(hb2.cell (p := ⟨b, off + k * 2, none⟩) (block_lt_of_cell hc1)).trans hc1, (hb2.cell (p := ⟨b, off + k * 2 + 1, none⟩) (block_lt_of_cell hc2)).trans hc2⟩
        replace o1 := OwR.below o1 hb2
        replace o2 := OwI.below o2 hb2
        clear hcall hb2 hc1 hc2
        have hap := row_apart o2 o1.2 (by decide)
        go_wp2_with (at_builtin; refine wpList_appRe _ rfl (.tmp 35) (.tmp 40) rfl w.heap.size _ _ _ _ rfl (o1.alloc _) _ _ _ _ [x] rfl (Res.new1 _ _ (by simp) x _) (by omega) (by have := hb.size; simp; omega) ?_; intro A3 c3 w3 ho3 hg3 hr3)
        have hbw3 : Below w.heap.size w w3 := (hb.alloc hb.size _).grown hg3 (by have := hb.size; simp; omega) (fun g hg => (Ow.row o1.2 g hg).1)
        have ho4 : OwI w3 w.heap.size 3 A2 m2 c2 (outL (l.take k) dead long now) := Ow.kept (Ow.alloc o2 _) hg3 hap
        rw [← HG1.out] at ho3
        rw [← HG2.out] at ho4
        clear hg3 hr3 q0 q1
        go_wp2_with fail
        go_roundw
        case rel => exact ⟨k + 1, m1 + 1, m2, A3, c3, A2, c2, by omega, by omega, by omega, by go_num, rfl, rfl, ho3, ho4, hbw3⟩
        case measure => simp [intOf]; omega
      · rw [hp] at hcall g1 g2
        simp only [if_true] at g1 g2
        have HG1 := Lib.hid g1
        have HG2 := Lib.hid g2
        clear g1 g2 hp
        go_upto_region 7 with (go_at_call 17; refine hcall.mono ?_; rintro e w2 ⟨rfl, hb2⟩)
        replace hb := hb.trans (hb2.mono hb.size)
        obtain ⟨q0, q1⟩ : w2.cell? ⟨b, off + k * 2, none⟩ = some (.int .i64 x.1) ∧ w2.cell? ⟨b, off + k * 2 + 1, none⟩ = some (.int .i64 x.2) := ⟨(hb2.cell (p := ⟨b, off + k * 2, none⟩) (block_lt_of_cell hc1)).trans hc1, (hb2.cell (p := ⟨b, off + k * 2 + 1, none⟩) (block_lt_of_cell hc2)).trans hc2⟩
        replace o1 := OwR.below o1 hb2
        replace o2 := OwI.below o2 hb2
        clear hcall hb2 hc1 hc2
        have hap := row_apart o1.2 o2 (by decide)
        go_wp2_with (at_builtin; refine wpList_appI _ rfl (.tmp 27) (.tmp 33) rfl w.heap.size _ _ _ _ rfl (o2.alloc _) _ _ _ _ [x.1] rfl (Ints.at1_ _ _ _ _ (by first | omega | (simp; done) | (simp; omega))) (by omega) (by have := hb.size; simp; omega) ?_; intro A3 c3 w3 ho3 hg3 hr3)
        have hbw3 : Below w.heap.size w w3 := (hb.alloc hb.size _).grown hg3 (by have := hb.size; simp; omega) (fun g hg => (Ow.row o2 g hg).1)
        have ho4 : OwRe w3 w.heap.size A1 m1 c1 (goodL (l.take k) dead long now) := ⟨o1.1, Ow.kept (Ow.alloc o1.2 _) hg3 hap⟩
        rw [← HG2.out] at ho3
        rw [← HG1.out] at ho4
        clear hg3 hr3 q0 q1
        go_wp2_with fail
        go_roundw
        case rel => exact ⟨k + 1, m1, m2 + 1, A1, c1, A3, c3, by omega, by omega, by omega, by go_num, rfl, rfl, ho4, ho3, hbw3⟩
        case measure => simp [intOf]; omega
    · obtain rfl : k = n := by omega
      have ht : l.take k = l := List.take_of_length_le (by rw [HL.out]; omega)
      rw [ht] at o1 o2
      have H1 := Lib.hid o1.1
      have H2 := Lib.hid o2.len
      clear ht
      go_wp2_with fail
      go_ret2
      exact ⟨A1, c1, A2, c2, by rw [H1.out, H2.out]; rfl, by rw [H1.out]; exact o1, by rw [H2.out]; exact o2, hb⟩
end Go.Proofs.Ytfjhommmplencaa
