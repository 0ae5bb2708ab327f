/-
  A script of picks, an argument, opened. Conditions: none.
-/
import Derived.Test.YtfahmfaakjnpcaaNamerOncePart1
import Derived.Test.YtfahmfaakjnpcaaOpenRecs
namespace Go.Proofs.Ytfahmfaakjnpcaa
set_option linter.unusedVariables false
set_option linter.unusedSimpArgs false
open Go.ChangeShapes Go.WideShapes Go.ChangeAt Go.RowKit Go.Deep

theorem pk_cells_int : Try.prog.cellsOf 3 = 1 := by kernel_rfl
theorem pk_cells_bool : Try.prog.cellsOf 4 = 1 := by kernel_rfl
theorem pk_cells_str : Try.prog.cellsOf 9 = 1 := by kernel_rfl
theorem cellsOf_Pk : Try.prog.cellsOf 36 = 4 := by kernel_rfl
set_option maxRecDepth 100000 in
theorem dec_Pk {H : Type} {enc : TypeId × Value → H} {W : World} (fuel : Nat) (cs : List Value) (y : DataW H × List MemPlace) (h : DataW.trod enc Try.prog W 0 (fun _ => true) true fuel 36 cs = some y) :
    ∃ x, cs = encPk x ∧ True := by
  obtain ⟨xs, n, _, _, hl, hxl, hf⟩ := DataW.trod_struct Try.underlying36 h
  rw [cellsOf_Pk] at hl
  match cs, hl with
  | [c0, c1, c2, c3], _ =>
    have h0 := hf 0 _ rfl
    have h1 := hf 1 _ rfl
    have h2 := hf 2 _ rfl
    have h3 := hf 3 _ rfl
    match xs, hxl with
    | [y0, y1, y2, y3], _ =>
      simp [pk_cells_int, pk_cells_bool, pk_cells_str] at h0 h1 h2 h3
      obtain ⟨a0, e0, _⟩ := DataW.trod_bool Try.underlying4 h0
      obtain ⟨a1, e1, _⟩ := DataW.trod_string Try.underlying9 h1
      obtain ⟨a2, e2, _⟩ := DataW.trod_bool Try.underlying4 h2
      obtain ⟨a3, e3, _⟩ := DataW.trod_int Try.underlying3 h3
      simp only [List.cons.injEq, and_true] at e0 e1 e2 e3
      subst e0 e1 e2 e3
      exact ⟨⟨a0, a1, a2, a3⟩, rfl, trivial⟩
end Go.Proofs.Ytfahmfaakjnpcaa
