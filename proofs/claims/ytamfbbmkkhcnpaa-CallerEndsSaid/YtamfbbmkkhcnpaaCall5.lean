/-
  What caller's goes, Take, Offers, Get compute. Conditions: bounds are premises.
-/
import Derived.Test.YtamfbbmkkhcnpaaCall4
namespace Go.Proofs.Ytamfbbmkkhcnpaa
open Go.RowKit

theorem ca_cells {w : World} {g : Nat} {x : Ca} {t : TypeId} (h : w.heap[g]? = some (.cells #[.int .i64 x.id, .int .i64 x.done, .int .i8 x.op, .int .i64 x.owner, .int .i64 x.sock, .slice x.A x.n x.c, .int .i8 x.st, .int .i64 x.i, .int .i64 x.rt, .int .i64 x.rs, .int .i64 x.re] t (0, 0))) : w.cell? ⟨g, 0, none⟩ = some (.int .i64 x.id) ∧ w.cell? ⟨g, 1, none⟩ = some (.int .i64 x.done) ∧ w.cell? ⟨g, 2, none⟩ = some (.int .i8 x.op) ∧ w.cell? ⟨g, 3, none⟩ = some (.int .i64 x.owner) ∧ w.cell? ⟨g, 4, none⟩ = some (.int .i64 x.sock) ∧ w.cell? ⟨g, 5, none⟩ = some (.slice x.A x.n x.c) ∧ w.cell? ⟨g, 6, none⟩ = some (.int .i8 x.st) ∧ w.cell? ⟨g, 7, none⟩ = some (.int .i64 x.i) ∧ w.cell? ⟨g, 8, none⟩ = some (.int .i64 x.rt) ∧ w.cell? ⟨g, 9, none⟩ = some (.int .i64 x.rs) ∧ w.cell? ⟨g, 10, none⟩ = some (.int .i64 x.re) :=
  ⟨by simp [World.cell?, h], by simp [World.cell?, h], by simp [World.cell?, h], by simp [World.cell?, h], by simp [World.cell?, h], by simp [World.cell?, h], by simp [World.cell?, h], by simp [World.cell?, h], by simp [World.cell?, h], by simp [World.cell?, h], by simp [World.cell?, h]⟩
theorem ca_free {w : World} {g : Nat} {x : Ca} {t : TypeId} (h : w.heap[g]? = some (.cells #[.int .i64 x.id, .int .i64 x.done, .int .i8 x.op, .int .i64 x.owner, .int .i64 x.sock, .slice x.A x.n x.c, .int .i8 x.st, .int .i64 x.i, .int .i64 x.rt, .int .i64 x.rs, .int .i64 x.re] t (0, 0))) : w.frozen? ⟨g, 0, none⟩ = false ∧ w.frozen? ⟨g, 1, none⟩ = false ∧ w.frozen? ⟨g, 2, none⟩ = false ∧ w.frozen? ⟨g, 3, none⟩ = false ∧ w.frozen? ⟨g, 4, none⟩ = false ∧ w.frozen? ⟨g, 5, none⟩ = false ∧ w.frozen? ⟨g, 6, none⟩ = false ∧ w.frozen? ⟨g, 7, none⟩ = false ∧ w.frozen? ⟨g, 8, none⟩ = false ∧ w.frozen? ⟨g, 9, none⟩ = false ∧ w.frozen? ⟨g, 10, none⟩ = false :=
  ⟨by simp [World.frozen?, h], by simp [World.frozen?, h], by simp [World.frozen?, h], by simp [World.frozen?, h], by simp [World.frozen?, h], by simp [World.frozen?, h], by simp [World.frozen?, h], by simp [World.frozen?, h], by simp [World.frozen?, h], by simp [World.frozen?, h], by simp [World.frozen?, h]⟩
def caPut (w : World) (g : Nat) (y : Ca) : World := ((((((((((w.setCell ⟨g, 0, none⟩ (.int .i64 y.id)).setCell ⟨g, 1, none⟩ (.int .i64 y.done)).setCell ⟨g, 2, none⟩ (.int .i8 y.op)).setCell ⟨g, 3, none⟩ (.int .i64 y.owner)).setCell ⟨g, 4, none⟩ (.int .i64 y.sock)).setCell ⟨g, 5, none⟩ (.slice y.A y.n y.c)).setCell ⟨g, 6, none⟩ (.int .i8 y.st)).setCell ⟨g, 7, none⟩ (.int .i64 y.i)).setCell ⟨g, 8, none⟩ (.int .i64 y.rt)).setCell ⟨g, 9, none⟩ (.int .i64 y.rs)).setCell ⟨g, 10, none⟩ (.int .i64 y.re)
theorem caPut_at {w : World} {g : Nat} {x : Ca} {t : TypeId} (y : Ca) (h : w.heap[g]? = some (.cells #[.int .i64 x.id, .int .i64 x.done, .int .i8 x.op, .int .i64 x.owner, .int .i64 x.sock, .slice x.A x.n x.c, .int .i8 x.st, .int .i64 x.i, .int .i64 x.rt, .int .i64 x.rs, .int .i64 x.re] t (0, 0))) : (caPut w g y).heap[g]? = some (.cells #[.int .i64 y.id, .int .i64 y.done, .int .i8 y.op, .int .i64 y.owner, .int .i64 y.sock, .slice y.A y.n y.c, .int .i8 y.st, .int .i64 y.i, .int .i64 y.rt, .int .i64 y.rs, .int .i64 y.re] t (0, 0)) := by
  simp [caPut, World.setCell, Array.getElem?_modify, h]
theorem caPut_below {B : Nat} {w0 w : World} {g : Nat} (y : Ca) (h : Below B w0 w) (hg : B ≤ g) : Below B w0 (caPut w g y) :=
  ((((((((((h.setCell (p := ⟨g, 0, none⟩) hg _).setCell (p := ⟨g, 1, none⟩) hg _).setCell (p := ⟨g, 2, none⟩) hg _).setCell (p := ⟨g, 3, none⟩) hg _).setCell (p := ⟨g, 4, none⟩) hg _).setCell (p := ⟨g, 5, none⟩) hg _).setCell (p := ⟨g, 6, none⟩) hg _).setCell (p := ⟨g, 7, none⟩) hg _).setCell (p := ⟨g, 8, none⟩) hg _).setCell (p := ⟨g, 9, none⟩) hg _).setCell (p := ⟨g, 10, none⟩) hg _
def zeroCa : Ca := ⟨0, 0, 0, 0, 0, none, 0, 0, 0, 0, 0, 0, 0⟩

/-- What becomes of a caller behind its case i. -/
def goesM (x : Ca) (i ms me : Int) : Ca × Bool :=
  if x.st = 0 then (if i = 0 then ({ x with st := 1 }, false) else (endC x (-1) (if i = 1 then 240 else 191), false))
  else if x.st = 2 then ({ x with st := 3 }, false)
  else if x.st = 1 then (if i = 1 then ({ x with st := 2 }, false) else toldM x ms me)
  else toldM x ms me
set_option maxRecDepth 100000 in
set_option maxHeartbeats 4000000 in
theorem goes_any (g : Nat) (x : Ca) (i mk mf mn ms me : Int) (mt : ByteArray) (w : World) (h : Cl w g x none 0 0) (hi : x.op = 4 → 0 ≤ x.i ∧ x.i ≤ 1000000) (hn : x.n ≤ 1000) (h0 : 0 ≤ i) (h2 : i ≤ 2) :
    Calls Try.prog 20 #[.pointer (some ⟨g, 0, none⟩), .int .i64 i, .agg #[.int .i8 mk, .int .i64 mf, .int .i64 mn, .int .i64 ms, .string mt, .int .i64 me]] w fun e w' => StepPost g (goesM x i ms me) x.done w e w' := by
  have lg := h.lt
  have hB : Below g w (w.alloc (.cells #[.int .i8 mk, .int .i64 mf, .int .i64 mn, .int .i64 ms, .string mt, .int .i64 me] 38)) := (Below.refl g w).alloc (Nat.le_of_lt lg) _
  have hA := h.below (Below.new_ w (.cells #[.int .i8 mk, .int .i64 mf, .int .i64 mn, .int .i64 ms, .string mt, .int .i64 me] 38)) lg
  have hm := heap_alloc_new w (.cells #[.int .i8 mk, .int .i64 mf, .int .i64 mn, .int .i64 ms, .string mt, .int .i64 me] 38)
  have hcase : (x.st = 0 ∧ i = 0) ∨ (x.st = 0 ∧ i = 1) ∨ (x.st = 0 ∧ i = 2) ∨ x.st = 2 ∨ (x.st = 1 ∧ i = 1) ∨ (x.st = 1 ∧ i ≠ 1) ∨ (x.st ≠ 0 ∧ x.st ≠ 1 ∧ x.st ≠ 2) := by omega
  rcases hcase with ⟨hs, hj⟩ | ⟨hs, hj⟩ | ⟨hs, hj⟩ | hs | ⟨hs, hj⟩ | ⟨hs, hj⟩ | ⟨hs0, hs1, hs2⟩
  · have q0 : (x.st == 0) = true := by simpa using hs
    have q1 : (i == 0) = true := by simpa using hj
    have HT : Hid (goesM x i ms me = ({ x with st := 1 }, false)) := by show _ = _; unfold goesM; simp [hs, hj]
    clear hs hj
    go_enter Try.func20, Try.ntmps20
    go_upto_region 1 with fail
    generalize (w.alloc (.cells #[.int .i8 mk, .int .i64 mf, .int .i64 mn, .int .i64 ms, .string mt, .int .i64 me] 38)) = W at hA hB hm ⊢
    obtain ⟨z0, z1, z2, z3, z4, z5, z6, z7, z8, z9, z10, z11⟩ := hA.cells
    obtain ⟨f6, f7, f8, f9, f10, f11, f5⟩ := hA.free
    go_wp2_with fail
    go_end0
    rw [HT.out]
    exact StepPost.no (hA.set6 1) (hB.setCell (p := ⟨g, 6, none⟩) (Nat.le_refl _) _)
  · have q0 : (x.st == 0) = true := by simpa using hs
    have q1 : (i == 0) = false := by simp; omega
    have HT : Hid (goesM x i ms me = (endC x (-1) 240, false)) := by show _ = _; unfold goesM; simp [hs, hj]
    clear hs q1
    subst hj
    go_enter Try.func20, Try.ntmps20
    go_upto_region 1 with fail
    generalize (w.alloc (.cells #[.int .i8 mk, .int .i64 mf, .int .i64 mn, .int .i64 ms, .string mt, .int .i64 me] 38)) = W at hA hB hm ⊢
    obtain ⟨z0, z1, z2, z3, z4, z5, z6, z7, z8, z9, z10, z11⟩ := hA.cells
    obtain ⟨f6, f7, f8, f9, f10, f11, f5⟩ := hA.free
    go_wp2_with fail
    have hA2 := hA.below (Below.new_ W (.cells #[.int .i64 240, .int .i64 191] 26)) hA.lt
    have hB2 := hB.alloc (Nat.le_of_lt hA.lt) (.cells #[.int .i64 240, .int .i64 191] 26)
    refine (ends_any g x _ _ _ (-1) 240 _ hA2).mono ?_
    rintro e w2 ⟨rfl, hc, hb⟩
    clear z0 z1 z2 z3 z4 z5 z6 z7 z8 z9 z10 z11 f6 f7 f8 f9 f10 f11 f5
    go_wp2_with fail
    go_end0
    rw [HT.out]
    exact StepPost.no hc (hB2.trans hb)
  · have q0 : (x.st == 0) = true := by simpa using hs
    have q1 : (i == 0) = false := by simp; omega
    have HT : Hid (goesM x i ms me = (endC x (-1) 191, false)) := by show _ = _; unfold goesM; simp [hs, hj]
    clear hs q1
    subst hj
    go_enter Try.func20, Try.ntmps20
    go_upto_region 1 with fail
    generalize (w.alloc (.cells #[.int .i8 mk, .int .i64 mf, .int .i64 mn, .int .i64 ms, .string mt, .int .i64 me] 38)) = W at hA hB hm ⊢
    obtain ⟨z0, z1, z2, z3, z4, z5, z6, z7, z8, z9, z10, z11⟩ := hA.cells
    obtain ⟨f6, f7, f8, f9, f10, f11, f5⟩ := hA.free
    go_wp2_with fail
    have hA2 := hA.below (Below.new_ W (.cells #[.int .i64 240, .int .i64 191] 26)) hA.lt
    have hB2 := hB.alloc (Nat.le_of_lt hA.lt) (.cells #[.int .i64 240, .int .i64 191] 26)
    refine (ends_any g x _ _ _ (-1) 191 _ hA2).mono ?_
    rintro e w2 ⟨rfl, hc, hb⟩
    clear z0 z1 z2 z3 z4 z5 z6 z7 z8 z9 z10 z11 f6 f7 f8 f9 f10 f11 f5
    go_wp2_with fail
    go_end0
    rw [HT.out]
    exact StepPost.no hc (hB2.trans hb)
  · have q0 : (x.st == 0) = false := by simp; omega
    have q2 : (x.st == 2) = true := by simpa using hs
    have HT : Hid (goesM x i ms me = ({ x with st := 3 }, false)) := by show _ = _; unfold goesM; simp [hs]
    clear hs
    go_enter Try.func20, Try.ntmps20
    go_upto_region 1 with fail
    generalize (w.alloc (.cells #[.int .i8 mk, .int .i64 mf, .int .i64 mn, .int .i64 ms, .string mt, .int .i64 me] 38)) = W at hA hB hm ⊢
    obtain ⟨z0, z1, z2, z3, z4, z5, z6, z7, z8, z9, z10, z11⟩ := hA.cells
    obtain ⟨f6, f7, f8, f9, f10, f11, f5⟩ := hA.free
    go_wp2_with fail
    go_end0
    rw [HT.out]
    exact StepPost.no (hA.set6 3) (hB.setCell (p := ⟨g, 6, none⟩) (Nat.le_refl _) _)
  · have q0 : (x.st == 0) = false := by simp; omega
    have q2 : (x.st == 2) = false := by simp; omega
    have q1 : (x.st == 1) = true := by simpa using hs
    have q3 : (i == 1) = true := by simpa using hj
    have HT : Hid (goesM x i ms me = ({ x with st := 2 }, false)) := by show _ = _; unfold goesM; simp [hs, hj]
    clear hs hj
    go_enter Try.func20, Try.ntmps20
    go_upto_region 1 with fail
    generalize (w.alloc (.cells #[.int .i8 mk, .int .i64 mf, .int .i64 mn, .int .i64 ms, .string mt, .int .i64 me] 38)) = W at hA hB hm ⊢
    obtain ⟨z0, z1, z2, z3, z4, z5, z6, z7, z8, z9, z10, z11⟩ := hA.cells
    obtain ⟨f6, f7, f8, f9, f10, f11, f5⟩ := hA.free
    go_wp2_with fail
    go_end0
    rw [HT.out]
    exact StepPost.no (hA.set6 2) (hB.setCell (p := ⟨g, 6, none⟩) (Nat.le_refl _) _)
  · have q0 : (x.st == 0) = false := by simp; omega
    have q2 : (x.st == 2) = false := by simp; omega
    have q1 : (x.st == 1) = true := by simpa using hs
    have q3 : (i == 1) = false := by simpa using hj
    have HT : Hid (goesM x i ms me = toldM x ms me) := by show _ = _; unfold goesM; simp [hs, hj]
    clear hs hj
    go_enter Try.func20, Try.ntmps20
    go_upto_region 1 with fail
    generalize (w.alloc (.cells #[.int .i8 mk, .int .i64 mf, .int .i64 mn, .int .i64 ms, .string mt, .int .i64 me] 38)) = W at hA hB hm ⊢
    obtain ⟨z0, z1, z2, z3, z4, z5, z6, z7, z8, z9, z10, z11⟩ := hA.cells
    obtain ⟨f6, f7, f8, f9, f10, f11, f5⟩ := hA.free
    have mm : True := trivial
    have m0 : W.cell? ⟨w.heap.size, 0, none⟩ = some (.int .i8 mk) := by simp [World.cell?, hm]
    have m1 : W.cell? ⟨w.heap.size, 1, none⟩ = some (.int .i64 mf) := by simp [World.cell?, hm]
    have m2 : W.cell? ⟨w.heap.size, 2, none⟩ = some (.int .i64 mn) := by simp [World.cell?, hm]
    have m3 : W.cell? ⟨w.heap.size, 3, none⟩ = some (.int .i64 ms) := by simp [World.cell?, hm]
    have m4 : W.cell? ⟨w.heap.size, 4, none⟩ = some (.string mt) := by simp [World.cell?, hm]
    have m5 : W.cell? ⟨w.heap.size, 5, none⟩ = some (.int .i64 me) := by simp [World.cell?, hm]
    go_wp2_with fail
    refine (told_any g x mk mf mn ms me mt _ hA hi hn).mono ?_
    rintro e w2 ⟨D, dn, dc, rfl, hc, hr, hb⟩
    clear z0 z1 z2 z3 z4 z5 z6 z7 z8 z9 z10 z11 f6 f7 f8 f9 f10 f11 f5 m0 m1 m2 m3 m4 m5
    go_wp2_with fail
    go_end0
    rw [HT.out]
    exact ⟨D, dn, dc, rfl, hc, hr, hB.trans hb⟩
  · have q0 : (x.st == 0) = false := by simpa using hs0
    have q2 : (x.st == 2) = false := by simpa using hs2
    have q1 : (x.st == 1) = false := by simpa using hs1
    have HT : Hid (goesM x i ms me = toldM x ms me) := by show _ = _; unfold goesM; simp [hs0, hs1, hs2]
    clear hs0 hs1 hs2
    go_enter Try.func20, Try.ntmps20
    go_upto_region 1 with fail
    generalize (w.alloc (.cells #[.int .i8 mk, .int .i64 mf, .int .i64 mn, .int .i64 ms, .string mt, .int .i64 me] 38)) = W at hA hB hm ⊢
    obtain ⟨z0, z1, z2, z3, z4, z5, z6, z7, z8, z9, z10, z11⟩ := hA.cells
    obtain ⟨f6, f7, f8, f9, f10, f11, f5⟩ := hA.free
    have mm : True := trivial
    have m0 : W.cell? ⟨w.heap.size, 0, none⟩ = some (.int .i8 mk) := by simp [World.cell?, hm]
    have m1 : W.cell? ⟨w.heap.size, 1, none⟩ = some (.int .i64 mf) := by simp [World.cell?, hm]
    have m2 : W.cell? ⟨w.heap.size, 2, none⟩ = some (.int .i64 mn) := by simp [World.cell?, hm]
    have m3 : W.cell? ⟨w.heap.size, 3, none⟩ = some (.int .i64 ms) := by simp [World.cell?, hm]
    have m4 : W.cell? ⟨w.heap.size, 4, none⟩ = some (.string mt) := by simp [World.cell?, hm]
    have m5 : W.cell? ⟨w.heap.size, 5, none⟩ = some (.int .i64 me) := by simp [World.cell?, hm]
    go_wp2_with fail
    refine (told_any g x mk mf mn ms me mt _ hA hi hn).mono ?_
    rintro e w2 ⟨D, dn, dc, rfl, hc, hr, hb⟩
    clear z0 z1 z2 z3 z4 z5 z6 z7 z8 z9 z10 z11 f6 f7 f8 f9 f10 f11 f5 m0 m1 m2 m3 m4 m5
    go_wp2_with fail
    go_end0
    rw [HT.out]
    exact ⟨D, dn, dc, rfl, hc, hr, hB.trans hb⟩
end Go.Proofs.Ytamfbbmkkhcnpaa
