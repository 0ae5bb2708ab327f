/-
  How an argument that is a slice of api.Scar, or of api.Addr, or an api.Addr, is opened. Conditions: none.
-/
import Derived.Test.YtgpijomnnnjgkaaOpenRecs
import Derived.Test.YtgpijomnnnjgkaaScar
import Derived.OpenShut
namespace Go.Proofs.Ytgpijomnnnjgkaa
open Go.ChangeShapes Go.WideShapes Go.ChangeAt Go.RowKit Go.Deep

theorem cellsOf_Ad : Try.prog.cellsOf 31 = 10 := by kernel_rfl
theorem cellsOf_Sc : Try.prog.cellsOf 33 = 11 := by kernel_rfl
theorem cellsOf_int : Try.prog.cellsOf 3 = 1 := by kernel_rfl
theorem cellsOf_i8 : Try.prog.cellsOf 27 = 1 := by kernel_rfl
theorem cellsOf_u16 : Try.prog.cellsOf 28 = 1 := by kernel_rfl
theorem cellsOf_G : Try.prog.cellsOf 29 = 8 := by kernel_rfl
def okAd (_ : Ad) : Prop := True
def okSc (x : Sc) : Prop := (Lit.int .i64 x.2).wf = true

theorem dec_G {H : Type} {enc : TypeId × Value → H} {W : World} (fuel : Nat) (cs : List Value) (y : DataW H × List MemPlace) (h : DataW.trod enc Try.prog W 0 (fun _ => true) true fuel 29 cs = some y) :
    ∃ a0 a1 a2 a3 a4 a5 a6 a7 : Int, cs = [.int .u16 a0, .int .u16 a1, .int .u16 a2, .int .u16 a3, .int .u16 a4, .int .u16 a5, .int .u16 a6, .int .u16 a7] := by
  obtain ⟨xs, n, _, _, hl, hxl, hf⟩ := DataW.trod_array Try.underlying29 h
  rw [cellsOf_G] at hl
  rw [cellsOf_u16] at hf
  match cs, hl with
  | [c0, c1, c2, c3, c4, c5, c6, c7], _ =>
    match xs, hxl with
    | [y0, y1, y2, y3, y4, y5, y6, y7], _ =>
      have h0 := hf 0 (by omega)
      have h1 := hf 1 (by omega)
      have h2 := hf 2 (by omega)
      have h3 := hf 3 (by omega)
      have h4 := hf 4 (by omega)
      have h5 := hf 5 (by omega)
      have h6 := hf 6 (by omega)
      have h7 := hf 7 (by omega)
      simp only [Nat.zero_mul, Nat.mul_one, List.drop_zero, List.drop_succ_cons, List.take_succ_cons, List.take_zero, List.getElem?_cons_zero, List.getElem?_cons_succ] at h0 h1 h2 h3 h4 h5 h6 h7
      obtain ⟨a0, e0, _, _⟩ := DataW.trod_int Try.underlying28 h0
      obtain ⟨a1, e1, _, _⟩ := DataW.trod_int Try.underlying28 h1
      obtain ⟨a2, e2, _, _⟩ := DataW.trod_int Try.underlying28 h2
      obtain ⟨a3, e3, _, _⟩ := DataW.trod_int Try.underlying28 h3
      obtain ⟨a4, e4, _, _⟩ := DataW.trod_int Try.underlying28 h4
      obtain ⟨a5, e5, _, _⟩ := DataW.trod_int Try.underlying28 h5
      obtain ⟨a6, e6, _, _⟩ := DataW.trod_int Try.underlying28 h6
      obtain ⟨a7, e7, _, _⟩ := DataW.trod_int Try.underlying28 h7
      simp only [List.cons.injEq, and_true] at e0 e1 e2 e3 e4 e5 e6 e7
      subst e0 e1 e2 e3 e4 e5 e6 e7
      exact ⟨a0, a1, a2, a3, a4, a5, a6, a7, rfl⟩
theorem dec_Ad {H : Type} {enc : TypeId × Value → H} {W : World} (fuel : Nat) (cs : List Value) (y : DataW H × List MemPlace) (h : DataW.trod enc Try.prog W 0 (fun _ => true) true fuel 31 cs = some y) :
    ∃ x, cs = encAd x ∧ okAd x := by
  obtain ⟨xs, n, _, _, hl, hxl, hf⟩ := DataW.trod_struct Try.underlying31 h
  rw [cellsOf_Ad] at hl
  match cs, hl with
  | [c0, c1, c2, c3, c4, c5, c6, c7, c8, c9], _ =>
    have h0 := hf 0 _ rfl
    have h1 := hf 1 _ rfl
    have h2 := hf 2 _ rfl
    match xs, hxl with
    | [y0, y1, y2], _ =>
      simp [cellsOf_int, cellsOf_i8, cellsOf_G] at h0 h1 h2
      obtain ⟨b0, e0, _, _⟩ := DataW.trod_int Try.underlying27 h0
      obtain ⟨a0, a1, a2, a3, a4, a5, a6, a7, e1⟩ := dec_G _ _ _ h1
      obtain ⟨b1, e2, _, _⟩ := DataW.trod_int Try.underlying3 h2
      simp only [List.cons.injEq, and_true] at e0 e1 e2
      obtain ⟨rfl, rfl, rfl, rfl, rfl, rfl, rfl, rfl⟩ := e1
      subst e0 e2
      exact ⟨(b0, a0, a1, a2, a3, a4, a5, a6, a7, b1), rfl, trivial⟩
theorem dec_Sc {H : Type} {enc : TypeId × Value → H} {W : World} (fuel : Nat) (cs : List Value) (y : DataW H × List MemPlace) (h : DataW.trod enc Try.prog W 0 (fun _ => true) true fuel 33 cs = some y) :
    ∃ x, cs = encSc x ∧ okSc x := by
  obtain ⟨xs, n, _, _, hl, hxl, hf⟩ := DataW.trod_struct Try.underlying33 h
  rw [cellsOf_Sc] at hl
  match cs, hl with
  | [c0, c1, c2, c3, c4, c5, c6, c7, c8, c9, c10], _ =>
    have h0 := hf 0 _ rfl
    have h1 := hf 1 _ rfl
    match xs, hxl with
    | [y0, y1], _ =>
      simp [cellsOf_int, cellsOf_Ad] at h0 h1
      obtain ⟨x, e0, _⟩ := dec_Ad _ _ _ h0
      obtain ⟨b1, e1, _, w1⟩ := DataW.trod_int Try.underlying3 h1
      unfold encAd at e0
      simp only [List.cons.injEq, and_true] at e0 e1
      obtain ⟨rfl, rfl, rfl, rfl, rfl, rfl, rfl, rfl, rfl, rfl⟩ := e0
      subst e1
      exact ⟨(x, b1), rfl, w1⟩
end Go.Proofs.Ytgpijomnnnjgkaa
