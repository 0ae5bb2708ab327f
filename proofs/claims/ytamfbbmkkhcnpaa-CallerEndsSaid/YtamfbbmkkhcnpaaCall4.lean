/-
  What ends, shuts, told, goes of caller's client do to its block. Conditions: bounds are premises.
-/
import Derived.Test.YtamfbbmkkhcnpaaCall3
namespace Go.Proofs.Ytamfbbmkkhcnpaa
open Go.RowKit

def endC (x : Ca) (s r : Int) : Ca := { x with st := 4, rt := x.id, rs := s, re := r }
set_option maxHeartbeats 1000000 in
theorem ends_any (g : Nat) (x : Ca) (D : Option Addr) (dn dc : Nat) (s r : Int) (w : World) (h : Cl w g x D dn dc) :
    Calls Try.prog 29 #[.pointer (some ⟨g, 0, none⟩), .int .i64 s, .int .i64 r] w fun e w' => e = .returned (.tuple #[]) ∧ Cl w' g (endC x s r) D dn dc ∧ Below g w w' := by
  obtain ⟨z0, z1, z2, z3, z4, z5, z6, z7, z8, z9, z10, z11⟩ := h.cells
  obtain ⟨f6, f7, f8, f9, f10, f11, f5⟩ := h.free
  have hC := (((h.set6 4).set8 x.id).set9 s).set10 r
  have hb := ((((Below.refl g w).setCell (p := ⟨g, 6, none⟩) (Nat.le_refl _) (.int .i8 4)).setCell (p := ⟨g, 8, none⟩) (Nat.le_refl _) (.int .i64 x.id)).setCell (p := ⟨g, 9, none⟩) (Nat.le_refl _) (.int .i64 s)).setCell (p := ⟨g, 10, none⟩) (Nat.le_refl _) (.int .i64 r)
  have HC : Hid (Cl _ g (endC x s r) D dn dc) := hC
  clear hC
  go_enter Try.func29, Try.ntmps29
  go_wp2_with fail
  go_end0
  exact ⟨rfl, HC.out, hb⟩
def ShutPost (g : Nat) (x : Ca) (w : World) (e : Ending) (w' : World) : Prop := ∃ D dc, e = .returned (.tuple #[]) ∧ Cl w' g x D 1 dc ∧ Des w' w'.heap.size D 1 [x.done] ∧ Below g w w'
set_option maxRecDepth 100000 in
set_option maxHeartbeats 2000000 in
theorem shuts_any (g : Nat) (x : Ca) (w : World) (h : Cl w g x none 0 0) :
    Calls Try.prog 23 #[.pointer (some ⟨g, 0, none⟩)] w fun e w' => ShutPost g x w e w' := by
  have lg := h.lt
  obtain ⟨z0, z1, z2, z3, z4, z5, z6, z7, z8, z9, z10, z11⟩ := h.cells
  have hxA : Des (w.alloc (.cells #[.int .i8 1, .int .i64 x.done, .int .i8 0, .int .i64 0, .int .i64 0, .int .i64 0, .string ⟨#[]⟩, .int .i64 0, .int .i8 0, .int .u16 0, .int .u16 0, .int .u16 0, .int .u16 0, .int .u16 0, .int .u16 0, .int .u16 0, .int .u16 0, .int .i64 0, .pointer none] 55)).drew (w.heap.size + 1) (some ⟨w.heap.size, 0, none⟩) 1 [x.done] := (Recs.new_at encDe_len w _ rfl [x.done] 1 rfl _ rfl _).drew
  have hA : Cl (w.alloc (.cells #[.int .i8 1, .int .i64 x.done, .int .i8 0, .int .i64 0, .int .i64 0, .int .i64 0, .string ⟨#[]⟩, .int .i64 0, .int .i8 0, .int .u16 0, .int .u16 0, .int .u16 0, .int .u16 0, .int .u16 0, .int .u16 0, .int .u16 0, .int .u16 0, .int .i64 0, .pointer none] 55)).drew g x none 0 0 := h.below (Below.new_ w _).drew lg
  have hbA : Below g w (w.alloc (.cells #[.int .i8 1, .int .i64 x.done, .int .i8 0, .int .i64 0, .int .i64 0, .int .i64 0, .string ⟨#[]⟩, .int .i64 0, .int .i8 0, .int .u16 0, .int .u16 0, .int .u16 0, .int .u16 0, .int .u16 0, .int .u16 0, .int .u16 0, .int .u16 0, .int .i64 0, .pointer none] 55)).drew := ((Below.refl g w).alloc (Nat.le_of_lt lg) _).drew
  have hzA : w.heap.size < (w.alloc (.cells #[.int .i8 1, .int .i64 x.done, .int .i8 0, .int .i64 0, .int .i64 0, .int .i64 0, .string ⟨#[]⟩, .int .i64 0, .int .i8 0, .int .u16 0, .int .u16 0, .int .u16 0, .int .u16 0, .int .u16 0, .int .u16 0, .int .u16 0, .int .u16 0, .int .i64 0, .pointer none] 55)).drew.heap.size := by simp
  have hnil : OwDe (w.alloc (.cells #[.int .i8 1, .int .i64 x.done, .int .i8 0, .int .i64 0, .int .i64 0, .int .i64 0, .string ⟨#[]⟩, .int .i64 0, .int .i8 0, .int .u16 0, .int .u16 0, .int .u16 0, .int .u16 0, .int .u16 0, .int .u16 0, .int .u16 0, .int .u16 0, .int .i64 0, .pointer none] 55)).drew w.heap.size none 0 0 [] := OwR.nil_ _ _ _ _
  go_enter Try.func23, Try.ntmps23
  go_wp2_with fail
  go_region_law ((refine step_appDe (by rfl) (.tmp 6) (.tmp 13) (by first | (go_simp; done) | rfl) w.heap.size none 0 0 [] (by first | (go_simp; done) | rfl) hnil (w.heap.size + 1) (some ⟨w.heap.size, 0, none⟩) 1 1 [x.done] (by first | (go_simp; done) | rfl) hxA (by omega) (Nat.le_of_lt hzA) ?_; intro A3 c3 w3 ho3 hg3 hr3; have h3 : Cl w3 g x none 0 0 := (hg3.block g (Nat.lt_trans lg hzA) (by simp [rowOf])).trans hA; obtain ⟨k0, k1, k2, k3, k4, k5, k6, k7, k8, k9, k10, k11⟩ := h3.cells; obtain ⟨f6, f7, f8, f9, f10, f11, f5⟩ := h3.free))
  all_goals
    have hb3 : Below g w w3 := hbA.grown hg3 (Nat.le_of_lt (Nat.lt_trans lg hzA)) (by simp [rowOf])
    have hC := h3.set11 (D' := A3) (dn' := 1) (dc' := c3)
    have hb4 := hb3.setCell (p := ⟨g, 11, none⟩) (Nat.le_refl _) (.slice A3 1 c3)
    have hr4 : Des (w3.setCell ⟨g, 11, none⟩ (.slice A3 1 c3)) (w3.setCell ⟨g, 11, none⟩ (.slice A3 1 c3)).heap.size A3 1 [x.done] := by
      have : OwDe (w3.setCell ⟨g, 11, none⟩ (.slice A3 1 c3)) w.heap.size A3 1 c3 [x.done] := ⟨ho3.1, ho3.2.set (p := ⟨g, 11, none⟩) (fun q hq e => by have := (Ow.row ho3.2 q hq).1; simp at e; omega) _⟩
      exact this.recs
    clear k0 k1 k2 k3 k4 k5 k6 k7 k8 k9 k10 k11 f6 f7 f8 f9 f10 f11 f5 hg3 hr3 ho3
    go_wp2_with fail
    go_end0
    exact ⟨A3, c3, rfl, hC, hr4, hb4⟩

/-- What becomes of a caller that is told a letter (its socket, its error), and whether its token is closed. -/
def toldM (x : Ca) (ms me : Int) : Ca × Bool :=
  if me ≠ 0 then (endC x (-1) me, false)
  else if x.op ≠ 4 then (endC x ms 0, false)
  else if x.i + 1 < x.n then ({ x with i := x.i + 1, st := 0 }, false)
  else (endC { x with i := x.i + 1 } (-1) 0, true)
/-- The client behind a step: the caller y; its deeds: none, or the closing of d. -/
def StepPost (g : Nat) (y : Ca × Bool) (d : Int) (w : World) (e : Ending) (w' : World) : Prop :=
  ∃ D dn dc, e = .returned (.tuple #[]) ∧ Cl w' g y.1 D dn dc ∧ Des w' w'.heap.size D dn (if y.2 then [d] else []) ∧ Below g w w'
theorem StepPost.no {g : Nat} {y : Ca} {d : Int} {w w' : World} (h : Cl w' g y none 0 0) (hb : Below g w w') : StepPost g (y, false) d w (.returned (.tuple #[])) w' := ⟨none, 0, 0, rfl, h, Recs.nil_ _ _ _, hb⟩
set_option maxRecDepth 100000 in
set_option maxHeartbeats 3000000 in
theorem told_any (g : Nat) (x : Ca) (mk mf mn ms me : Int) (mt : ByteArray) (w : World) (h : Cl w g x none 0 0) (hi : x.op = 4 → 0 ≤ x.i ∧ x.i ≤ 1000000) (hn : x.n ≤ 1000) :
    Calls Try.prog 30 #[.pointer (some ⟨g, 0, none⟩), .agg #[.int .i8 mk, .int .i64 mf, .int .i64 mn, .int .i64 ms, .string mt, .int .i64 me]] w fun e w' => StepPost g (toldM x ms me) x.done w e w' := by
  have lg := h.lt
  have lg1 : g < w.heap.size + 1 := by omega
  have hB : Below g w (w.alloc (.cells #[.int .i8 mk, .int .i64 mf, .int .i64 mn, .int .i64 ms, .string mt, .int .i64 me] 38)) := (Below.refl g w).alloc (Nat.le_of_lt lg) _
  have hA := h.below (Below.new_ w (.cells #[.int .i8 mk, .int .i64 mf, .int .i64 mn, .int .i64 ms, .string mt, .int .i64 me] 38)) lg
  by_cases h0 : me = 0
  · have q0 : (me != 0) = false := by simpa using h0
    by_cases h1 : x.op = 4
    · have q1 : (x.op != 4) = false := by simpa using h1
      obtain ⟨i0, i1⟩ := hi h1
      by_cases h2 : x.i + 1 < x.n
      · have q2 : decide (x.i + 1 < (x.n : Int)) = true := by simpa using h2
        have HT : Hid (toldM x ms me = ({ x with i := x.i + 1, st := 0 }, false)) := by show _ = _; unfold toldM; rw [if_neg (by simpa using h0), if_neg (by simpa using h1), if_pos h2]
        clear h0 h1 h2
        go_enter Try.func30, Try.ntmps30
        go_upto_region 6 with fail
        have hm := heap_alloc_new w (.cells #[.int .i8 mk, .int .i64 mf, .int .i64 mn, .int .i64 ms, .string mt, .int .i64 me] 38)
        generalize (w.alloc (.cells #[.int .i8 mk, .int .i64 mf, .int .i64 mn, .int .i64 ms, .string mt, .int .i64 me] 38)) = W at hA hB hm ⊢
        obtain ⟨z0, z1, z2, z3, z4, z5, z6, z7, z8, z9, z10, z11⟩ := hA.cells
        obtain ⟨f6, f7, f8, f9, f10, f11, f5⟩ := hA.free
        have m5 : W.cell? ⟨w.heap.size, 5, none⟩ = some (.int .i64 me) := by simp [World.cell?, hm]
        go_upto_region 2 with fail
        replace hA := hA.set7 (x.i + 1)
        replace hB := hB.setCell (p := ⟨g, 7, none⟩) (Nat.le_refl _) (.int .i64 (x.i + 1))
        generalize (W.setCell ⟨g, 7, none⟩ (.int .i64 (x.i + 1))) = W2 at hA hB ⊢
        clear z0 z1 z2 z3 z4 z5 z6 z7 z8 z9 z10 z11 m5 hm f6 f7 f8 f9 f10 f11 f5
        obtain ⟨z0, z1, z2, z3, z4, z5, z6, z7, z8, z9, z10, z11⟩ := hA.cells
        dsimp only at z0 z1 z2 z3 z4 z5 z6 z7 z8 z9 z10 z11
        go_quiet (fail)
        replace hA : Cl (W2.drewN nq) g { x with i := x.i + 1 } none 0 0 := hA
        replace hB := below_drewN hB nq
        clear z0 z1 z2 z3 z4 z5 z6 z7 z8 z9 z10 z11
        generalize W2.drewN nq = W3 at hA hB ⊢
        obtain ⟨z0, z1, z2, z3, z4, z5, z6, z7, z8, z9, z10, z11⟩ := hA.cells
        dsimp only at z0 z1 z2 z3 z4 z5 z6 z7 z8 z9 z10 z11
        obtain ⟨f6, f7, f8, f9, f10, f11, f5⟩ := hA.free
        go_wp2_with fail
        go_end0
        rw [HT.out]
        exact StepPost.no (hA.set6 0) (hB.setCell (p := ⟨g, 6, none⟩) (Nat.le_refl _) _)
      · have q2 : decide (x.i + 1 < (x.n : Int)) = false := by simpa using h2
        have HT : Hid (toldM x ms me = (endC { x with i := x.i + 1 } (-1) 0, true)) := by show _ = _; unfold toldM; rw [if_neg (by simpa using h0), if_neg (by simpa using h1), if_neg h2]
        clear h0 h1 h2
        go_enter Try.func30, Try.ntmps30
        go_upto_region 6 with fail
        have hm := heap_alloc_new w (.cells #[.int .i8 mk, .int .i64 mf, .int .i64 mn, .int .i64 ms, .string mt, .int .i64 me] 38)
        generalize (w.alloc (.cells #[.int .i8 mk, .int .i64 mf, .int .i64 mn, .int .i64 ms, .string mt, .int .i64 me] 38)) = W at hA hB hm ⊢
        obtain ⟨z0, z1, z2, z3, z4, z5, z6, z7, z8, z9, z10, z11⟩ := hA.cells
        obtain ⟨f6, f7, f8, f9, f10, f11, f5⟩ := hA.free
        have m5 : W.cell? ⟨w.heap.size, 5, none⟩ = some (.int .i64 me) := by simp [World.cell?, hm]
        go_upto_region 2 with fail
        replace hA := hA.set7 (x.i + 1)
        replace hB := hB.setCell (p := ⟨g, 7, none⟩) (Nat.le_refl _) (.int .i64 (x.i + 1))
        generalize (W.setCell ⟨g, 7, none⟩ (.int .i64 (x.i + 1))) = W2 at hA hB ⊢
        clear z0 z1 z2 z3 z4 z5 z6 z7 z8 z9 z10 z11 m5 hm f6 f7 f8 f9 f10 f11 f5
        obtain ⟨z0, z1, z2, z3, z4, z5, z6, z7, z8, z9, z10, z11⟩ := hA.cells
        dsimp only at z0 z1 z2 z3 z4 z5 z6 z7 z8 z9 z10 z11
        go_quiet (fail)
        replace hA : Cl (W2.drewN nq) g { x with i := x.i + 1 } none 0 0 := hA
        replace hB := below_drewN hB nq
        clear z0 z1 z2 z3 z4 z5 z6 z7 z8 z9 z10 z11
        generalize W2.drewN nq = W3 at hA hB ⊢
        obtain ⟨z0, z1, z2, z3, z4, z5, z6, z7, z8, z9, z10, z11⟩ := hA.cells
        dsimp only at z0 z1 z2 z3 z4 z5 z6 z7 z8 z9 z10 z11
        obtain ⟨f6, f7, f8, f9, f10, f11, f5⟩ := hA.free
        go_wp2_with fail
        refine (ends_any g { x with i := x.i + 1 } _ _ _ (-1) 0 _ hA).mono ?_
        rintro e w2 ⟨rfl, hc, hb⟩
        replace hB := hB.trans hb
        clear hb z0 z1 z2 z3 z4 z5 z6 z7 z8 z9 z10 z11 f6 f7 f8 f9 f10 f11 f5
        go_wp2_with fail
        refine (shuts_any g _ _ hc).mono ?_
        rintro e w3 ⟨D, dc, rfl, hc3, hr3, hb⟩
        replace hB := hB.trans hb
        go_wp2_with fail
        go_end0
        rw [HT.out]
        exact ⟨D, 1, dc, rfl, hc3, hr3, hB⟩
    · have q1 : (x.op != 4) = true := by simpa using h1
      have HT : Hid (toldM x ms me = (endC x ms 0, false)) := by show _ = _; unfold toldM; rw [if_neg (by simpa using h0), if_pos h1]
      clear h0 h1
      go_enter Try.func30, Try.ntmps30
      go_upto_region 6 with fail
      have hm := heap_alloc_new w (.cells #[.int .i8 mk, .int .i64 mf, .int .i64 mn, .int .i64 ms, .string mt, .int .i64 me] 38)
      generalize (w.alloc (.cells #[.int .i8 mk, .int .i64 mf, .int .i64 mn, .int .i64 ms, .string mt, .int .i64 me] 38)) = W at hA hB hm ⊢
      obtain ⟨z0, z1, z2, z3, z4, z5, z6, z7, z8, z9, z10, z11⟩ := hA.cells
      have m3 : W.cell? ⟨w.heap.size, 3, none⟩ = some (.int .i64 ms) := by simp [World.cell?, hm]
      have m5 : W.cell? ⟨w.heap.size, 5, none⟩ = some (.int .i64 me) := by simp [World.cell?, hm]
      go_wp2_with fail
      refine (ends_any g x _ _ _ ms 0 _ hA).mono ?_
      rintro e w2 ⟨rfl, hc, hb⟩
      clear z0 z1 z2 z3 z4 z5 z6 z7 z8 z9 z10 z11 m3 m5
      go_wp2_with fail
      go_end0
      rw [HT.out]
      exact StepPost.no hc (hB.trans hb)
  · have q0 : (me != 0) = true := by simpa using h0
    have HT : Hid (toldM x ms me = (endC x (-1) me, false)) := by show _ = _; unfold toldM; rw [if_pos h0]
    clear h0
    go_enter Try.func30, Try.ntmps30
    go_upto_region 6 with fail
    have hm := heap_alloc_new w (.cells #[.int .i8 mk, .int .i64 mf, .int .i64 mn, .int .i64 ms, .string mt, .int .i64 me] 38)
    generalize (w.alloc (.cells #[.int .i8 mk, .int .i64 mf, .int .i64 mn, .int .i64 ms, .string mt, .int .i64 me] 38)) = W at hA hB hm ⊢
    have m5 : W.cell? ⟨w.heap.size, 5, none⟩ = some (.int .i64 me) := by simp [World.cell?, hm]
    go_wp2_with fail
    refine (ends_any g x _ _ _ (-1) me _ hA).mono ?_
    rintro e w2 ⟨rfl, hc, hb⟩
    go_wp2_with fail
    go_end0
    rw [HT.out]
    exact StepPost.no hc (hB.trans hb)
end Go.Proofs.Ytamfbbmkkhcnpaa
