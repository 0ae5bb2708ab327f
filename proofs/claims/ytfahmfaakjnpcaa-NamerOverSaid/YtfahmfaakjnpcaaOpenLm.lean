/-
  How an argument that is a letter is opened. Conditions: none.
-/
import Derived.Test.YtfahmfaakjnpcaaDec
import Derived.Test.YtfahmfaakjnpcaaOpenRec
import Derived.Test.YtfahmfaakjnpcaaNm13
namespace Go.Proofs.Ytfahmfaakjnpcaa
set_option linter.unusedVariables false
set_option linter.unusedSimpArgs false
open Go.ChangeShapes Go.WideShapes Go.ChangeAt Go.RowKit Go.Deep

theorem cellsOf_Lt : Try.prog.cellsOf 40 = 6 := by kernel_rfl
theorem cellsOf_int : Try.prog.cellsOf 3 = 1 := by kernel_rfl
theorem cellsOf_i8 : Try.prog.cellsOf 37 = 1 := by kernel_rfl
theorem cellsOf_en : Try.prog.cellsOf 38 = 1 := by kernel_rfl
theorem cellsOf_str : Try.prog.cellsOf 9 = 1 := by kernel_rfl
set_option maxRecDepth 100000 in
theorem dec_Lm {H : Type} {enc : TypeId × Value → H} {W : World} (fuel : Nat) (cs : List Value) (y : DataW H × List MemPlace) (h : DataW.trod enc Try.prog W 0 (fun _ => true) true fuel 40 cs = some y) :
    ∃ m : Lt, cs = encLt m ∧ (Lit.int .i8 m.k).wf = true := by
  obtain ⟨xs, n, _, _, hl, hxl, hf⟩ := DataW.trod_struct Try.underlying40 h
  rw [cellsOf_Lt] at hl
  match cs, hl with
  | [c0, c1, c2, c3, c4, c5], _ =>
    have h0 := hf 0 _ rfl
    have h1 := hf 1 _ rfl
    have h2 := hf 2 _ rfl
    have h3 := hf 3 _ rfl
    have h4 := hf 4 _ rfl
    have h5 := hf 5 _ rfl
    match xs, hxl with
    | [y0, y1, y2, y3, y4, y5], _ =>
      simp [cellsOf_int, cellsOf_i8, cellsOf_str, cellsOf_en] at h0 h1 h2 h3 h4 h5
      obtain ⟨b0, e0, _, hw⟩ := DataW.trod_int Try.underlying37 h0
      obtain ⟨b1, e1, _, _⟩ := DataW.trod_int Try.underlying3 h1
      obtain ⟨b2, e2, _, _⟩ := DataW.trod_int Try.underlying3 h2
      obtain ⟨b3, e3, _, _⟩ := DataW.trod_int Try.underlying3 h3
      obtain ⟨b4, e4, _, _⟩ := DataW.trod_string Try.underlying9 h4
      obtain ⟨b5, e5, _, _⟩ := DataW.trod_int Try.underlying38 h5
      simp only [List.cons.injEq, and_true] at e0 e1 e2 e3 e4 e5
      subst e0 e1 e2 e3 e4 e5
      exact ⟨⟨b0, b1, b2, b3, b4, b5⟩, rfl, hw⟩
set_option maxRecDepth 100000 in
theorem open_Lm {H : Type} {enc : TypeId × Value → H} {W : World} {b0 : TypeId} {r : Reach} {v : Value} {d : DataW H} {p : List MemPlace}
    (hv : Value.okWide Try.prog W r b0 40 v) (h : DataW.Trod enc Try.prog W 0 (fun _ => true) true 40 v d p) : ∃ m : Lt, v = .agg #[.int .i8 m.k, .int .i64 m.f, .int .i64 m.n, .int .i64 m.s, .string m.t, .int .i64 m.e] ∧ (Lit.int .i8 m.k).wf = true := by
  obtain ⟨x, e, hw⟩ := open_Rec (encR := encLt) (ok := fun m => (Lit.int .i8 m.k).wf = true) Try.underlying40 dec_Lm hv h
  exact ⟨x, e, hw⟩
end Go.Proofs.Ytfahmfaakjnpcaa
