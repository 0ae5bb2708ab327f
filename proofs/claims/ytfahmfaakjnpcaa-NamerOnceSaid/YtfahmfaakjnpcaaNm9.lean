/-
  What namer.Take computes. Conditions: at most 500 names, 1000 lookups in flight, of at most 90000 races each.
-/
import Derived.Test.YtfahmfaakjnpcaaNm7
import Derived.Test.YtfahmfaakjnpcaaNm8
import Derived.Test.YtfahmfaakjnpcaaMap
namespace Go.Proofs.Ytfahmfaakjnpcaa
set_option linter.unusedVariables false
set_option linter.unusedSimpArgs false
open Go.RowKit Go.Shelf

def zeroNm : NmH := ⟨0, (0, 0, 0, 0, 0, 0, 0, 0, 0), none, 0, 0, none, 0, 0, false⟩
def NmRow (w : World) (g : Nat) (h : NmH) : Prop := w.heap[g]? = some (.cells #[.int .i64 h.id, .int .i64 h.cf.1, .int .i64 h.cf.2.1, .int .i64 h.cf.2.2.1, .int .i64 h.cf.2.2.2.1, .int .i64 h.cf.2.2.2.2.1, .int .i64 h.cf.2.2.2.2.2.1, .int .i64 h.cf.2.2.2.2.2.2.1, .int .i64 h.cf.2.2.2.2.2.2.2.1, .int .i64 h.cf.2.2.2.2.2.2.2.2, .slice h.kA h.kn h.kc, .slice h.fA h.fn h.fc, .bool h.over] 29 (0, 0))
section
variable {w w' : World} {g : Nat} {h : NmH}
theorem NmRow.lt (x : NmRow w g h) : g < w.heap.size := (Array.getElem?_eq_some_iff.1 x).1
theorem NmRow.block (x : NmRow w g h) (hb : w'.heap[g]? = w.heap[g]?) : NmRow w' g h := hb.trans x
theorem NmRow.cells (x : NmRow w g h) : w.cell? ⟨g, 0, none⟩ = some (.int .i64 h.id) ∧ w.cell? ⟨g, 1, none⟩ = some (.int .i64 h.cf.1) ∧ w.cell? ⟨g, 2, none⟩ = some (.int .i64 h.cf.2.1) ∧ w.cell? ⟨g, 3, none⟩ = some (.int .i64 h.cf.2.2.1) ∧ w.cell? ⟨g, 4, none⟩ = some (.int .i64 h.cf.2.2.2.1) ∧ w.cell? ⟨g, 5, none⟩ = some (.int .i64 h.cf.2.2.2.2.1) ∧ w.cell? ⟨g, 6, none⟩ = some (.int .i64 h.cf.2.2.2.2.2.1) ∧ w.cell? ⟨g, 7, none⟩ = some (.int .i64 h.cf.2.2.2.2.2.2.1) ∧ w.cell? ⟨g, 8, none⟩ = some (.int .i64 h.cf.2.2.2.2.2.2.2.1) ∧ w.cell? ⟨g, 9, none⟩ = some (.int .i64 h.cf.2.2.2.2.2.2.2.2) ∧ w.cell? ⟨g, 10, none⟩ = some (.slice h.kA h.kn h.kc) ∧ w.cell? ⟨g, 11, none⟩ = some (.slice h.fA h.fn h.fc) ∧ w.cell? ⟨g, 12, none⟩ = some (.bool h.over) := by
  unfold NmRow at x
  exact ⟨by simp [World.cell?, x], by simp [World.cell?, x], by simp [World.cell?, x], by simp [World.cell?, x], by simp [World.cell?, x], by simp [World.cell?, x], by simp [World.cell?, x], by simp [World.cell?, x], by simp [World.cell?, x], by simp [World.cell?, x], by simp [World.cell?, x], by simp [World.cell?, x], by simp [World.cell?, x]⟩
theorem NmRow.free (x : NmRow w g h) : w.frozen? ⟨g, 0, none⟩ = false ∧ w.frozen? ⟨g, 1, none⟩ = false ∧ w.frozen? ⟨g, 2, none⟩ = false ∧ w.frozen? ⟨g, 3, none⟩ = false ∧ w.frozen? ⟨g, 4, none⟩ = false ∧ w.frozen? ⟨g, 5, none⟩ = false ∧ w.frozen? ⟨g, 6, none⟩ = false ∧ w.frozen? ⟨g, 7, none⟩ = false ∧ w.frozen? ⟨g, 8, none⟩ = false ∧ w.frozen? ⟨g, 9, none⟩ = false ∧ w.frozen? ⟨g, 10, none⟩ = false ∧ w.frozen? ⟨g, 11, none⟩ = false ∧ w.frozen? ⟨g, 12, none⟩ = false := by
  unfold NmRow at x
  exact ⟨by simp [World.frozen?, x], by simp [World.frozen?, x], by simp [World.frozen?, x], by simp [World.frozen?, x], by simp [World.frozen?, x], by simp [World.frozen?, x], by simp [World.frozen?, x], by simp [World.frozen?, x], by simp [World.frozen?, x], by simp [World.frozen?, x], by simp [World.frozen?, x], by simp [World.frozen?, x], by simp [World.frozen?, x]⟩
end
def nmPut (w : World) (g : Nat) (y : NmH) : World := ((((((((((((w.setCell ⟨g, 0, none⟩ (.int .i64 y.id)).setCell ⟨g, 1, none⟩ (.int .i64 y.cf.1)).setCell ⟨g, 2, none⟩ (.int .i64 y.cf.2.1)).setCell ⟨g, 3, none⟩ (.int .i64 y.cf.2.2.1)).setCell ⟨g, 4, none⟩ (.int .i64 y.cf.2.2.2.1)).setCell ⟨g, 5, none⟩ (.int .i64 y.cf.2.2.2.2.1)).setCell ⟨g, 6, none⟩ (.int .i64 y.cf.2.2.2.2.2.1)).setCell ⟨g, 7, none⟩ (.int .i64 y.cf.2.2.2.2.2.2.1)).setCell ⟨g, 8, none⟩ (.int .i64 y.cf.2.2.2.2.2.2.2.1)).setCell ⟨g, 9, none⟩ (.int .i64 y.cf.2.2.2.2.2.2.2.2)).setCell ⟨g, 10, none⟩ (.slice y.kA y.kn y.kc)).setCell ⟨g, 11, none⟩ (.slice y.fA y.fn y.fc)).setCell ⟨g, 12, none⟩ (.bool y.over)
set_option maxHeartbeats 1000000 in
theorem nmPut_at {w : World} {g : Nat} {x : NmH} (y : NmH) (h : NmRow w g x) : NmRow (nmPut w g y) g y := by
  unfold NmRow at h ⊢
  simp [nmPut, World.setCell, Array.getElem?_modify, h]
theorem nmPut_other (w : World) (g : Nat) (y : NmH) (q : Nat) (hq : q ≠ g) : (nmPut w g y).heap[q]? = w.heap[q]? := by
  unfold nmPut
  repeat rw [Below.heap_setCell _ _ _ _ hq]
theorem nmPut_size (w : World) (g : Nat) (y : NmH) : (nmPut w g y).heap.size = w.heap.size := by simp [nmPut, World.setCell]
theorem nmPut_below {B : Nat} {w0 w : World} {g : Nat} (y : NmH) (h : Below B w0 w) (hg : B ≤ g) : Below B w0 (nmPut w g y) :=
  (((((((((((((h.setCell (p := ⟨g, 0, none⟩) hg _).setCell (p := ⟨g, 1, none⟩) hg _).setCell (p := ⟨g, 2, none⟩) hg _).setCell (p := ⟨g, 3, none⟩) hg _).setCell (p := ⟨g, 4, none⟩) hg _).setCell (p := ⟨g, 5, none⟩) hg _).setCell (p := ⟨g, 6, none⟩) hg _).setCell (p := ⟨g, 7, none⟩) hg _).setCell (p := ⟨g, 8, none⟩) hg _).setCell (p := ⟨g, 9, none⟩) hg _).setCell (p := ⟨g, 10, none⟩) hg _).setCell (p := ⟨g, 11, none⟩) hg _).setCell (p := ⟨g, 12, none⟩) hg _)
theorem Kp.drew {w : World} {g : Nat} {h : NmH} {ck nx : Int} {D : Option Addr} {dn dc : Nat} (hk : Kp w g h ck nx D dn dc) : Kp w.drew g h ck nx D dn dc := hk
/-- What a step of a namer returns. -/
def NmRes (F : Nat → Prop) (R : Nm × List Dn) (w : World) (e : Ending) (w' : World) : Prop :=
  ∃ h l fs A n c ds, e = .returned (.tuple #[.agg #[.int .i64 h.id, .int .i64 h.cf.1, .int .i64 h.cf.2.1, .int .i64 h.cf.2.2.1, .int .i64 h.cf.2.2.2.1, .int .i64 h.cf.2.2.2.2.1, .int .i64 h.cf.2.2.2.2.2.1, .int .i64 h.cf.2.2.2.2.2.2.1, .int .i64 h.cf.2.2.2.2.2.2.2.1, .int .i64 h.cf.2.2.2.2.2.2.2.2, .slice h.kA h.kn h.kc, .slice h.fA h.fn h.fc, .bool h.over], .slice A n c]) ∧ Stb (fun b => F b ∨ w.heap.size ≤ b) w' (fun w'' => NmIs w'' w''.heap.size h l fs ∧ DdsIs w'' w''.heap.size A n ds) ∧ absN h l fs = R.1 ∧ absD ds = R.2 ∧ Below w.heap.size w w'
/-- Ahead of the result: the keeper at the fourth of the new blocks, the result's block the third. -/
def TkInv (F : Nat → Prop) (w : World) (ck nx : Int) (R : Nm × List Dn) (W : World) : Prop :=
  ∃ h l fs D dn dc ds, Kp W (w.heap.size + 1 + 1 + 1) h ck nx D dn dc ∧ NmRow W (w.heap.size + 1 + 1) zeroNm ∧ Stb (fun b => F b ∨ w.heap.size + 1 + 1 + 1 + 1 ≤ b) W (fun w'' => NmIs w'' w''.heap.size h l fs ∧ DdsIs w'' w''.heap.size D dn ds) ∧ absN h l fs = R.1 ∧ absD ds = R.2 ∧ Below w.heap.size w W
theorem keyI8 (n : Int) (hw : (Lit.int .i8 n).wf = true) : keyOf Try.prog 37 (.int .i8 n) = some (.int .i8 n) := by
  have h : Try.prog.underlying 37 = some (.int .i8) := Try.underlying37
  simp [keyOf, h, mapKey, hw]
theorem KI8 : Go.Maps.Keyed Try.prog 37 := Go.Maps.int_keyed Try.underlying37
theorem zeroFn (w : World) : (zeroValue 93).run Try.prog w = .ok .nilFunc w := by kernel_rfl
/-- The four new blocks. -/
theorem tk_start (h1 h : NmH) (m : Lt) (ck nx : Int) (w : World) :
    Kp ((((w.alloc (.cells #[.int .i64 h1.id, .int .i64 h1.cf.1, .int .i64 h1.cf.2.1, .int .i64 h1.cf.2.2.1, .int .i64 h1.cf.2.2.2.1, .int .i64 h1.cf.2.2.2.2.1, .int .i64 h1.cf.2.2.2.2.2.1, .int .i64 h1.cf.2.2.2.2.2.2.1, .int .i64 h1.cf.2.2.2.2.2.2.2.1, .int .i64 h1.cf.2.2.2.2.2.2.2.2, .slice h1.kA h1.kn h1.kc, .slice h1.fA h1.fn h1.fc, .bool h1.over] 29)).alloc (.cells #[.int .i8 m.k, .int .i64 m.f, .int .i64 m.n, .int .i64 m.s, .string m.t, .int .i64 m.e] 40)).alloc (.cells #[.int .i64 0, .int .i64 0, .int .i64 0, .int .i64 0, .int .i64 0, .int .i64 0, .int .i64 0, .int .i64 0, .int .i64 0, .int .i64 0, .slice none 0 0, .slice none 0 0, .bool false] 29)).alloc (.cells #[.int .i64 h.id, .int .i64 h.cf.1, .int .i64 h.cf.2.1, .int .i64 h.cf.2.2.1, .int .i64 h.cf.2.2.2.1, .int .i64 h.cf.2.2.2.2.1, .int .i64 h.cf.2.2.2.2.2.1, .int .i64 h.cf.2.2.2.2.2.2.1, .int .i64 h.cf.2.2.2.2.2.2.2.1, .int .i64 h.cf.2.2.2.2.2.2.2.2, .slice h.kA h.kn h.kc, .slice h.fA h.fn h.fc, .bool h.over, .int .i64 ck, .int .i64 nx, .slice none 0 0] 92)) (w.heap.size + 1 + 1 + 1) h ck nx none 0 0 ∧
    NmRow ((((w.alloc (.cells #[.int .i64 h1.id, .int .i64 h1.cf.1, .int .i64 h1.cf.2.1, .int .i64 h1.cf.2.2.1, .int .i64 h1.cf.2.2.2.1, .int .i64 h1.cf.2.2.2.2.1, .int .i64 h1.cf.2.2.2.2.2.1, .int .i64 h1.cf.2.2.2.2.2.2.1, .int .i64 h1.cf.2.2.2.2.2.2.2.1, .int .i64 h1.cf.2.2.2.2.2.2.2.2, .slice h1.kA h1.kn h1.kc, .slice h1.fA h1.fn h1.fc, .bool h1.over] 29)).alloc (.cells #[.int .i8 m.k, .int .i64 m.f, .int .i64 m.n, .int .i64 m.s, .string m.t, .int .i64 m.e] 40)).alloc (.cells #[.int .i64 0, .int .i64 0, .int .i64 0, .int .i64 0, .int .i64 0, .int .i64 0, .int .i64 0, .int .i64 0, .int .i64 0, .int .i64 0, .slice none 0 0, .slice none 0 0, .bool false] 29)).alloc (.cells #[.int .i64 h.id, .int .i64 h.cf.1, .int .i64 h.cf.2.1, .int .i64 h.cf.2.2.1, .int .i64 h.cf.2.2.2.1, .int .i64 h.cf.2.2.2.2.1, .int .i64 h.cf.2.2.2.2.2.1, .int .i64 h.cf.2.2.2.2.2.2.1, .int .i64 h.cf.2.2.2.2.2.2.2.1, .int .i64 h.cf.2.2.2.2.2.2.2.2, .slice h.kA h.kn h.kc, .slice h.fA h.fn h.fc, .bool h.over, .int .i64 ck, .int .i64 nx, .slice none 0 0] 92)) (w.heap.size + 1 + 1) zeroNm ∧
    LtAt ((((w.alloc (.cells #[.int .i64 h1.id, .int .i64 h1.cf.1, .int .i64 h1.cf.2.1, .int .i64 h1.cf.2.2.1, .int .i64 h1.cf.2.2.2.1, .int .i64 h1.cf.2.2.2.2.1, .int .i64 h1.cf.2.2.2.2.2.1, .int .i64 h1.cf.2.2.2.2.2.2.1, .int .i64 h1.cf.2.2.2.2.2.2.2.1, .int .i64 h1.cf.2.2.2.2.2.2.2.2, .slice h1.kA h1.kn h1.kc, .slice h1.fA h1.fn h1.fc, .bool h1.over] 29)).alloc (.cells #[.int .i8 m.k, .int .i64 m.f, .int .i64 m.n, .int .i64 m.s, .string m.t, .int .i64 m.e] 40)).alloc (.cells #[.int .i64 0, .int .i64 0, .int .i64 0, .int .i64 0, .int .i64 0, .int .i64 0, .int .i64 0, .int .i64 0, .int .i64 0, .int .i64 0, .slice none 0 0, .slice none 0 0, .bool false] 29)).alloc (.cells #[.int .i64 h.id, .int .i64 h.cf.1, .int .i64 h.cf.2.1, .int .i64 h.cf.2.2.1, .int .i64 h.cf.2.2.2.1, .int .i64 h.cf.2.2.2.2.1, .int .i64 h.cf.2.2.2.2.2.1, .int .i64 h.cf.2.2.2.2.2.2.1, .int .i64 h.cf.2.2.2.2.2.2.2.1, .int .i64 h.cf.2.2.2.2.2.2.2.2, .slice h.kA h.kn h.kc, .slice h.fA h.fn h.fc, .bool h.over, .int .i64 ck, .int .i64 nx, .slice none 0 0] 92)) (w.heap.size + 1) m ∧
    Below w.heap.size w ((((w.alloc (.cells #[.int .i64 h1.id, .int .i64 h1.cf.1, .int .i64 h1.cf.2.1, .int .i64 h1.cf.2.2.1, .int .i64 h1.cf.2.2.2.1, .int .i64 h1.cf.2.2.2.2.1, .int .i64 h1.cf.2.2.2.2.2.1, .int .i64 h1.cf.2.2.2.2.2.2.1, .int .i64 h1.cf.2.2.2.2.2.2.2.1, .int .i64 h1.cf.2.2.2.2.2.2.2.2, .slice h1.kA h1.kn h1.kc, .slice h1.fA h1.fn h1.fc, .bool h1.over] 29)).alloc (.cells #[.int .i8 m.k, .int .i64 m.f, .int .i64 m.n, .int .i64 m.s, .string m.t, .int .i64 m.e] 40)).alloc (.cells #[.int .i64 0, .int .i64 0, .int .i64 0, .int .i64 0, .int .i64 0, .int .i64 0, .int .i64 0, .int .i64 0, .int .i64 0, .int .i64 0, .slice none 0 0, .slice none 0 0, .bool false] 29)).alloc (.cells #[.int .i64 h.id, .int .i64 h.cf.1, .int .i64 h.cf.2.1, .int .i64 h.cf.2.2.1, .int .i64 h.cf.2.2.2.1, .int .i64 h.cf.2.2.2.2.1, .int .i64 h.cf.2.2.2.2.2.1, .int .i64 h.cf.2.2.2.2.2.2.1, .int .i64 h.cf.2.2.2.2.2.2.2.1, .int .i64 h.cf.2.2.2.2.2.2.2.2, .slice h.kA h.kn h.kc, .slice h.fA h.fn h.fc, .bool h.over, .int .i64 ck, .int .i64 nx, .slice none 0 0] 92)) ∧
    ((((w.alloc (.cells #[.int .i64 h1.id, .int .i64 h1.cf.1, .int .i64 h1.cf.2.1, .int .i64 h1.cf.2.2.1, .int .i64 h1.cf.2.2.2.1, .int .i64 h1.cf.2.2.2.2.1, .int .i64 h1.cf.2.2.2.2.2.1, .int .i64 h1.cf.2.2.2.2.2.2.1, .int .i64 h1.cf.2.2.2.2.2.2.2.1, .int .i64 h1.cf.2.2.2.2.2.2.2.2, .slice h1.kA h1.kn h1.kc, .slice h1.fA h1.fn h1.fc, .bool h1.over] 29)).alloc (.cells #[.int .i8 m.k, .int .i64 m.f, .int .i64 m.n, .int .i64 m.s, .string m.t, .int .i64 m.e] 40)).alloc (.cells #[.int .i64 0, .int .i64 0, .int .i64 0, .int .i64 0, .int .i64 0, .int .i64 0, .int .i64 0, .int .i64 0, .int .i64 0, .int .i64 0, .slice none 0 0, .slice none 0 0, .bool false] 29)).alloc (.cells #[.int .i64 h.id, .int .i64 h.cf.1, .int .i64 h.cf.2.1, .int .i64 h.cf.2.2.1, .int .i64 h.cf.2.2.2.1, .int .i64 h.cf.2.2.2.2.1, .int .i64 h.cf.2.2.2.2.2.1, .int .i64 h.cf.2.2.2.2.2.2.1, .int .i64 h.cf.2.2.2.2.2.2.2.1, .int .i64 h.cf.2.2.2.2.2.2.2.2, .slice h.kA h.kn h.kc, .slice h.fA h.fn h.fc, .bool h.over, .int .i64 ck, .int .i64 nx, .slice none 0 0] 92)).heap.size = w.heap.size + 1 + 1 + 1 + 1 := by
  obtain ⟨c1, e1⟩ : ∃ c, c = Obj.cells #[.int .i64 h1.id, .int .i64 h1.cf.1, .int .i64 h1.cf.2.1, .int .i64 h1.cf.2.2.1, .int .i64 h1.cf.2.2.2.1, .int .i64 h1.cf.2.2.2.2.1, .int .i64 h1.cf.2.2.2.2.2.1, .int .i64 h1.cf.2.2.2.2.2.2.1, .int .i64 h1.cf.2.2.2.2.2.2.2.1, .int .i64 h1.cf.2.2.2.2.2.2.2.2, .slice h1.kA h1.kn h1.kc, .slice h1.fA h1.fn h1.fc, .bool h1.over] 29 := ⟨_, rfl⟩
  obtain ⟨c2, e2⟩ : ∃ c, c = Obj.cells #[.int .i8 m.k, .int .i64 m.f, .int .i64 m.n, .int .i64 m.s, .string m.t, .int .i64 m.e] 40 := ⟨_, rfl⟩
  obtain ⟨c3, e3⟩ : ∃ c, c = Obj.cells #[.int .i64 0, .int .i64 0, .int .i64 0, .int .i64 0, .int .i64 0, .int .i64 0, .int .i64 0, .int .i64 0, .int .i64 0, .int .i64 0, .slice none 0 0, .slice none 0 0, .bool false] 29 := ⟨_, rfl⟩
  obtain ⟨c4, e4⟩ : ∃ c, c = Obj.cells #[.int .i64 h.id, .int .i64 h.cf.1, .int .i64 h.cf.2.1, .int .i64 h.cf.2.2.1, .int .i64 h.cf.2.2.2.1, .int .i64 h.cf.2.2.2.2.1, .int .i64 h.cf.2.2.2.2.2.1, .int .i64 h.cf.2.2.2.2.2.2.1, .int .i64 h.cf.2.2.2.2.2.2.2.1, .int .i64 h.cf.2.2.2.2.2.2.2.2, .slice h.kA h.kn h.kc, .slice h.fA h.fn h.fc, .bool h.over, .int .i64 ck, .int .i64 nx, .slice none 0 0] 92 := ⟨_, rfl⟩
  have ez : ∀ W g, NmRow W g zeroNm = (W.heap[g]? = some (.cells #[.int .i64 0, .int .i64 0, .int .i64 0, .int .i64 0, .int .i64 0, .int .i64 0, .int .i64 0, .int .i64 0, .int .i64 0, .int .i64 0, .slice none 0 0, .slice none 0 0, .bool false] 29 (0, 0))) := fun _ _ => rfl
  rw [ez]
  unfold Kp LtAt
  rw [← e1, ← e2, ← e3, ← e4]
  have s1 : (w.alloc c1).heap.size = w.heap.size + 1 := by simp
  have s2 : ((w.alloc c1).alloc c2).heap.size = w.heap.size + 1 + 1 := by simp
  have s3 : (((w.alloc c1).alloc c2).alloc c3).heap.size = w.heap.size + 1 + 1 + 1 := by simp
  have a2 := heap_alloc_new (w.alloc c1) c2
  have a3 := heap_alloc_new ((w.alloc c1).alloc c2) c3
  have a4 := heap_alloc_new (((w.alloc c1).alloc c2).alloc c3) c4
  rw [s1] at a2
  rw [s2] at a3
  rw [s3] at a4
  refine ⟨a4, (Below.heap_alloc _ _ _ (by omega)).trans a3, ((Below.heap_alloc _ _ _ (by omega)).trans (Below.heap_alloc _ _ _ (by omega))).trans a2, (((Below.new_ w _).alloc (by omega) _).alloc (by omega) _).alloc (by omega) _, by simp⟩
theorem TkInv.same {F : Nat → Prop} {w W : World} {h : NmH} {l : List Kn} {fs : List Fx} {ck nx : Int} {R : Nm × List Dn} (hF : Stb F w (fun w'' => NmIs w'' w''.heap.size h l fs)) (hFB : ∀ b, F b → b < w.heap.size) {h' : NmH} (e : h' = h ∨ h' = { h with over := true }) (hk : Kp W (w.heap.size + 1 + 1 + 1) h' ck nx none 0 0) (hr : NmRow W (w.heap.size + 1 + 1) zeroNm) (hb : Below w.heap.size w W) (hR : (absN h' l fs, []) = R) : TkInv F w ck nx R W := by
  refine ⟨h', l, fs, none, 0, 0, [], hk, hr, ?_, by rw [← hR], by rw [← hR]; rfl, hb⟩
  intro w'' hsz hbb
  have hN' : NmIs w'' w''.heap.size h l fs := hF w'' (Nat.le_trans hb.size hsz) fun b h1 h2 => (hbb b (Nat.lt_of_lt_of_le h1 hb.size) (.inl h2)).trans (hb.block b h1)
  refine ⟨?_, Recs.nil_ _ _ _, by simp⟩
  rcases e with rfl | rfl
  · exact hN'
  · exact ⟨hN'.k, hN'.f, hN'.kc, hN'.fc⟩
theorem TkInv.step {F : Nat → Prop} {w W0 W w' : World} {ck nx : Int} {R : Nm × List Dn} {e : Ending} (hst : StepK F (w.heap.size + 1 + 1 + 1) ck nx R W e w') (hb : Below w.heap.size w W0) (hr : NmRow W0 (w.heap.size + 1 + 1) zeroNm) (hs : W0.heap.size = w.heap.size + 1 + 1 + 1 + 1) (hW : Below W0.heap.size W0 W) :
    e = .returned (.tuple #[]) ∧ TkInv F w ck nx R w' := by
  obtain ⟨h', l', fs', D, dn, dc, ds, he, hk, hS, h1, h2, hg⟩ := hst
  have hz := hW.size
  have hbw : Below w.heap.size w w' := (hb.trans (hW.mono (by omega))).grown hg (by omega) (fun k hk => by injection hk with hk; omega)
  refine ⟨he, h', l', fs', D, dn, dc, ds, hk, ?_, ?_, h1, h2, hbw⟩
  · exact hr.block ((hg.block _ (by omega) (fun e => by injection e with e; omega)).trans (hW.block _ (by omega)))
  · intro w'' hsz hbb
    refine hS w'' hsz fun b hb1 hb2 => hbb b hb1 ?_
    rcases hb2 with h | h
    · exact .inl h
    · exact .inr (by omega)
theorem NmRes.mk_ {F : Nat → Prop} {w W3 : World} {h' : NmH} {l' : List Kn} {fs' : List Fx} {D : Option Addr} {dn dc : Nat} {ds : List Dx} {R : Nm × List Dn} (hFB : ∀ b, F b → b < w.heap.size)
    (hS : Stb (fun b => F b ∨ w.heap.size + 1 + 1 + 1 + 1 ≤ b) W3 (fun w'' => NmIs w'' w''.heap.size h' l' fs' ∧ DdsIs w'' w''.heap.size D dn ds)) (h1 : absN h' l' fs' = R.1) (h2 : absD ds = R.2) (hb : Below w.heap.size w W3) :
    NmRes F R w (.returned (.tuple #[.agg #[.int .i64 h'.id, .int .i64 h'.cf.1, .int .i64 h'.cf.2.1, .int .i64 h'.cf.2.2.1, .int .i64 h'.cf.2.2.2.1, .int .i64 h'.cf.2.2.2.2.1, .int .i64 h'.cf.2.2.2.2.2.1, .int .i64 h'.cf.2.2.2.2.2.2.1, .int .i64 h'.cf.2.2.2.2.2.2.2.1, .int .i64 h'.cf.2.2.2.2.2.2.2.2, .slice h'.kA h'.kn h'.kc, .slice h'.fA h'.fn h'.fc, .bool h'.over], .slice D dn dc])) (nmPut W3 (w.heap.size + 1 + 1) h').drew := by
  have hs := nmPut_size W3 (w.heap.size + 1 + 1) h'
  have ho := nmPut_other W3 (w.heap.size + 1 + 1) h'
  have hbX := nmPut_below (g := w.heap.size + 1 + 1) h' hb (by omega)
  generalize nmPut W3 (w.heap.size + 1 + 1) h' = X at hs ho hbX ⊢
  refine ⟨h', l', fs', D, dn, dc, ds, rfl, ?_, h1, h2, hbX.drew⟩
  intro w'' hsz hbb
  have hsz2 : X.heap.size ≤ w''.heap.size := hsz
  refine hS w'' (by omega) fun b h1 h2 => ?_
  have h3 : w''.heap[b]? = X.heap[b]? := hbb b (by show b < X.heap.size; omega) (by rcases h2 with h | h; exact .inl h; exact .inr (by omega))
  exact h3.trans (ho b (by rcases h2 with h | h; have := hFB b h; omega; omega))
end Go.Proofs.Ytfahmfaakjnpcaa
