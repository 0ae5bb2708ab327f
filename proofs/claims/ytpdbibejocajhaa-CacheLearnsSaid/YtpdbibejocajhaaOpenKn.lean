/-
  How an argument that is a kept name, a slice of them, or a configuration is opened. Conditions: none.
-/
import Derived.Test.YtpdbibejocajhaaOpenRecs
import Derived.Test.YtpdbibejocajhaaOpenRec
import Derived.Test.YtpdbibejocajhaaKn3
namespace Go.Proofs.Ytpdbibejocajhaa
set_option linter.unusedVariables false
set_option linter.unusedSimpArgs false
open Go.ChangeShapes Go.WideShapes Go.ChangeAt Go.RowKit Go.Deep

theorem cellsOf_Kn : Try.prog.cellsOf 30 = 4 := by kernel_rfl
theorem cellsOf_int : Try.prog.cellsOf 3 = 1 := by kernel_rfl
theorem cellsOf_en : Try.prog.cellsOf 28 = 1 := by kernel_rfl
theorem cellsOf_str : Try.prog.cellsOf 9 = 1 := by kernel_rfl
set_option maxRecDepth 100000 in
theorem dec_Kn {H : Type} {enc : TypeId × Value → H} {W : World} (fuel : Nat) (cs : List Value) (y : DataW H × List MemPlace) (h : DataW.trod enc Try.prog W 0 (fun _ => true) true fuel 30 cs = some y) :
    ∃ x, cs = encKn x ∧ True := by
  obtain ⟨xs, n, _, _, hl, hxl, hf⟩ := DataW.trod_struct Try.underlying30 h
  rw [cellsOf_Kn] at hl
  match cs, hl with
  | [c0, c1, c2, c3], _ =>
    have h0 := hf 0 _ rfl
    have h1 := hf 1 _ rfl
    have h2 := hf 2 _ rfl
    have h3 := hf 3 _ rfl
    match xs, hxl with
    | [y0, y1, y2, y3], _ =>
      simp [cellsOf_int, cellsOf_en, cellsOf_str] at h0 h1 h2 h3
      obtain ⟨a0, e0, _⟩ := DataW.trod_string Try.underlying9 h0
      obtain ⟨a1, e1, _⟩ := DataW.trod_string Try.underlying9 h1
      obtain ⟨a2, e2, _⟩ := DataW.trod_int Try.underlying28 h2
      obtain ⟨a3, e3, _⟩ := DataW.trod_int Try.underlying3 h3
      simp only [List.cons.injEq, and_true] at e0 e1 e2 e3
      subst e0 e1 e2 e3
      exact ⟨(a0, a1, a2, a3), rfl, trivial⟩
set_option maxRecDepth 100000 in
theorem open_Kn {H : Type} {enc : TypeId × Value → H} {W : World} {b0 : TypeId} {r : Reach} {v : Value} {d : DataW H} {p : List MemPlace}
    (hv : Value.okWide Try.prog W r b0 30 v) (h : DataW.Trod enc Try.prog W 0 (fun _ => true) true 30 v d p) : ∃ x : Kn, v = .agg #[.string x.1, .string x.2.1, .int .i64 x.2.2.1, .int .i64 x.2.2.2] := by
  obtain ⟨x, e, _⟩ := open_Rec (encR := encKn) (ok := fun _ => True) Try.underlying30 dec_Kn hv h
  exact ⟨x, e⟩
set_option maxRecDepth 100000 in
theorem dec_Cf {H : Type} {enc : TypeId × Value → H} {W : World} (fuel : Nat) (cs : List Value) (y : DataW H × List MemPlace) (h : DataW.trod enc Try.prog W 0 (fun _ => true) true fuel 40 cs = some y) :
    ∃ x : Cf, cs = [.int .i64 x.1, .int .i64 x.2.1, .int .i64 x.2.2.1, .int .i64 x.2.2.2.1, .int .i64 x.2.2.2.2.1, .int .i64 x.2.2.2.2.2.1, .int .i64 x.2.2.2.2.2.2.1, .int .i64 x.2.2.2.2.2.2.2.1, .int .i64 x.2.2.2.2.2.2.2.2] ∧ True := by
  obtain ⟨xs, n, _, _, hl, hxl, hf⟩ := DataW.trod_struct Try.underlying40 h
  rw [show Try.prog.cellsOf 40 = 9 by kernel_rfl] at hl
  match cs, hl with
  | [c0, c1, c2, c3, c4, c5, c6, c7, c8], _ =>
    have h0 := hf 0 _ rfl
    have h1 := hf 1 _ rfl
    have h2 := hf 2 _ rfl
    have h3 := hf 3 _ rfl
    have h4 := hf 4 _ rfl
    have h5 := hf 5 _ rfl
    have h6 := hf 6 _ rfl
    have h7 := hf 7 _ rfl
    have h8 := hf 8 _ rfl
    match xs, hxl with
    | [y0, y1, y2, y3, y4, y5, y6, y7, y8], _ =>
      simp [cellsOf_int] at h0 h1 h2 h3 h4 h5 h6 h7 h8
      obtain ⟨a0, e0, _⟩ := DataW.trod_int Try.underlying3 h0
      obtain ⟨a1, e1, _⟩ := DataW.trod_int Try.underlying3 h1
      obtain ⟨a2, e2, _⟩ := DataW.trod_int Try.underlying3 h2
      obtain ⟨a3, e3, _⟩ := DataW.trod_int Try.underlying3 h3
      obtain ⟨a4, e4, _⟩ := DataW.trod_int Try.underlying3 h4
      obtain ⟨a5, e5, _⟩ := DataW.trod_int Try.underlying3 h5
      obtain ⟨a6, e6, _⟩ := DataW.trod_int Try.underlying3 h6
      obtain ⟨a7, e7, _⟩ := DataW.trod_int Try.underlying3 h7
      obtain ⟨a8, e8, _⟩ := DataW.trod_int Try.underlying3 h8
      simp only [List.cons.injEq, and_true] at e0 e1 e2 e3 e4 e5 e6 e7 e8
      subst e0 e1 e2 e3 e4 e5 e6 e7 e8
      exact ⟨(a0, a1, a2, a3, a4, a5, a6, a7, a8), rfl, trivial⟩
set_option maxRecDepth 100000 in
theorem open_Cf {H : Type} {enc : TypeId × Value → H} {W : World} {b0 : TypeId} {r : Reach} {v : Value} {d : DataW H} {p : List MemPlace}
    (hv : Value.okWide Try.prog W r b0 40 v) (h : DataW.Trod enc Try.prog W 0 (fun _ => true) true 40 v d p) : ∃ x : Cf, v = .agg #[.int .i64 x.1, .int .i64 x.2.1, .int .i64 x.2.2.1, .int .i64 x.2.2.2.1, .int .i64 x.2.2.2.2.1, .int .i64 x.2.2.2.2.2.1, .int .i64 x.2.2.2.2.2.2.1, .int .i64 x.2.2.2.2.2.2.2.1, .int .i64 x.2.2.2.2.2.2.2.2] := by
  obtain ⟨x, e, _⟩ := open_Rec (encR := fun x : Cf => [.int .i64 x.1, .int .i64 x.2.1, .int .i64 x.2.2.1, .int .i64 x.2.2.2.1, .int .i64 x.2.2.2.2.1, .int .i64 x.2.2.2.2.2.1, .int .i64 x.2.2.2.2.2.2.1, .int .i64 x.2.2.2.2.2.2.2.1, .int .i64 x.2.2.2.2.2.2.2.2]) (ok := fun _ => True) Try.underlying40 dec_Cf hv h
  exact ⟨x, e⟩
end Go.Proofs.Ytpdbibejocajhaa
