/-
  How an argument that is a slice of api.Pace is opened. Conditions: none.
-/
import Derived.Test.YtcmgcbkhjdeinaaOpenRecs
import Derived.Test.YtcmgcbkhjdeinaaPace
namespace Go.Proofs.Ytcmgcbkhjdeinaa
open Go.ChangeShapes Go.WideShapes Go.ChangeAt Go.RowKit Go.Deep

theorem cellsOf_Pc : Try.prog.cellsOf 24 = 3 := by kernel_rfl
theorem cellsOf_int : Try.prog.cellsOf 3 = 1 := by kernel_rfl
theorem cellsOf_bool : Try.prog.cellsOf 4 = 1 := by kernel_rfl
def okPc (x : Pc) : Prop := (Lit.int .i64 x.n).wf = true ∧ (Lit.int .i64 x.at_).wf = true

theorem dec_Pc {H : Type} {enc : TypeId × Value → H} {W : World} (fuel : Nat) (cs : List Value) (y : DataW H × List MemPlace) (h : DataW.trod enc Try.prog W 0 (fun _ => true) true fuel 24 cs = some y) :
    ∃ x, cs = encPc x ∧ okPc x := by
  obtain ⟨xs, n, _, _, hl, hxl, hf⟩ := DataW.trod_struct Try.underlying24 h
  rw [cellsOf_Pc] at hl
  match cs, hl with
  | [c0, c1, c2], _ =>
    have h0 := hf 0 _ rfl
    have h1 := hf 1 _ rfl
    have h2 := hf 2 _ rfl
    match xs, hxl with
    | [y0, y1, y2], _ =>
      simp [cellsOf_int, cellsOf_bool] at h0 h1 h2
      obtain ⟨b, e0, _⟩ := DataW.trod_bool Try.underlying4 h0
      obtain ⟨a1, e1, _, w1⟩ := DataW.trod_int Try.underlying3 h1
      obtain ⟨a2, e2, _, w2⟩ := DataW.trod_int Try.underlying3 h2
      simp only [List.cons.injEq, and_true] at e0 e1 e2
      subst e0 e1 e2
      exact ⟨⟨b, a1, a2⟩, rfl, w1, w2⟩
end Go.Proofs.Ytcmgcbkhjdeinaa
