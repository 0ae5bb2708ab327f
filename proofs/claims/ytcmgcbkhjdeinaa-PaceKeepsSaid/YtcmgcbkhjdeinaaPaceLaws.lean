/-
  The walks of the statement PaceBreaks and of what all statements of layer 14 ask besides: each returns true and writes nothing that was there. Conditions: none.
-/
import Derived.Test.YtcmgcbkhjdeinaaPace3
import Derived.Test.YtcmgcbkhjdeinaaKeeps
import Derived.Test.YtcmgcbkhjdeinaaLineRef
namespace Go.Proofs.Ytcmgcbkhjdeinaa
open Go.RowKit

set_option maxRecDepth 100000 in
set_option maxHeartbeats 1000000 in
theorem wakes14_any (w : World) : Calls Try.prog 7 #[] w fun e w' => e = .returned (.bool true) ∧ Below w.heap.size w w' := by
  have e1 : mayB 1 2 false 5 3 8 = true := by decide
  have e2 : mayB 1 2 false 5 3 7 = false := by decide
  have e3 : keeps 3 [⟨false, 0, 5⟩, ⟨false, 1, 7⟩] = false := by decide
  have e4 : keeps 3 [⟨false, 0, 5⟩, ⟨true, 0, 7⟩, ⟨false, 1, 7⟩] = true := by decide
  have e5 : plan 3 5 3 = [5, 8, 11] := by decide
  have e6 : planN 3 = 3 := by decide
  go_enter Try.func7, Try.ntmps7
  go_wp2_with fail
  refine (Plan_any _ _ _ _).mono ?_
  rintro e w1 ⟨A1, c1, rfl, ho, hb1⟩
  rw [e5, e6] at ho
  obtain ⟨b, off, hA, hbb, hcc⟩ := ho.ints.2 (by omega) (by omega)
  subst hA
  have p0 : w1.cell? ⟨b, off, none⟩ = some (.int .i64 5) := hcc 0 _ rfl
  have p1 : w1.cell? ⟨b, off + 1, none⟩ = some (.int .i64 8) := hcc 1 _ rfl
  have p2 : w1.cell? ⟨b, off + 2, none⟩ = some (.int .i64 11) := hcc 2 _ rfl
  clear hcc e5
  have hbb1 : b < w1.heap.size + 1 := by omega
  have hbb2 : b < w1.heap.size + 1 + 1 := by omega
  go_wp2_with fail
  refine (Keeps_any 3 _ _ _ _ _ _ (Pcs.new2 _ _ (by simp) ⟨false, 0, 5⟩ ⟨false, 1, 7⟩ _) (by simp) (by omega) (by decide)).mono ?_
  rintro e w2 ⟨rfl, hb2⟩
  obtain ⟨a0, a1, a2, ax⟩ := ((((Pc3.new_at w1 _ rfl ⟨false, 0, 5⟩ _).alloc _).alloc _).alloc _).below hb2
  obtain ⟨b0, b1, b2, bx⟩ := (((Pc3.new_at (w1.alloc _) (w1.heap.size + 1) (by simp) ⟨false, 1, 7⟩ _).alloc _).alloc _).below hb2
  obtain ⟨f0, f1, f2, fx⟩ := ((Pc3.new_at ((w1.alloc _).alloc _) (w1.heap.size + 1 + 1) (by simp) ⟨true, 0, 7⟩ _).alloc _).below hb2
  have hz2 : w1.heap.size + 4 ≤ w2.heap.size := by have := hb2.size; simp at this; omega
  have hbw2 : Below w.heap.size w w2 := hb1.trans (Below.trans (b := ((((w1.alloc _).alloc _).alloc _).alloc _)) (((((Below.refl _ _).alloc hb1.size _).alloc (by have := hb1.size; simp; omega) _).alloc (by have := hb1.size; simp; omega) _).alloc (by have := hb1.size; simp; omega) _) (hb2.mono (by have := hb1.size; simp; omega)))
  clear hb2 hb1 ho hbb1 hbb2
  go_wp2_with fail
  refine (Keeps_any 3 _ _ _ _ _ _ (Pcs.new3 _ _ (by simp) ⟨false, 0, 5⟩ ⟨true, 0, 7⟩ ⟨false, 1, 7⟩ _) (by simp) (by omega) (by decide)).mono ?_
  rintro e w3 ⟨rfl, hb3⟩
  go_wp2_with (go_at_call 9; refine (May_any _ _ _ _ _ _ _).mono ?_; rintro e w' ⟨rfl, rfl⟩)
  go_ret
  exact ⟨rfl, (hbw2.alloc hbw2.size _).trans (hb3.mono (by have := hbw2.size; simp; omega))⟩
end Go.Proofs.Ytcmgcbkhjdeinaa
