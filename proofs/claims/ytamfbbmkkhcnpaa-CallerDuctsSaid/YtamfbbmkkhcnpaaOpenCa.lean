/-
  How an argument that is a caller, or a letter, is opened. Conditions: none.
-/
import Derived.Test.YtamfbbmkkhcnpaaDec
import Derived.Test.YtamfbbmkkhcnpaaOpenRec
import Derived.Test.YtamfbbmkkhcnpaaCall
namespace Go.Proofs.Ytamfbbmkkhcnpaa
open Go.ChangeShapes Go.WideShapes Go.ChangeAt Go.RowKit Go.Deep

theorem cellsOf_Ca : Try.prog.cellsOf 30 = 11 := by kernel_rfl
theorem cellsOf_Rp : Try.prog.cellsOf 28 = 3 := by kernel_rfl
theorem cellsOf_Lt : Try.prog.cellsOf 38 = 6 := by kernel_rfl
theorem cellsOf_int : Try.prog.cellsOf 3 = 1 := by kernel_rfl
theorem cellsOf_i8 : Try.prog.cellsOf 24 = 1 := by kernel_rfl
theorem cellsOf_en : Try.prog.cellsOf 26 = 1 := by kernel_rfl
theorem cellsOf_str : Try.prog.cellsOf 9 = 1 := by kernel_rfl
theorem cellsOf_sli : Try.prog.cellsOf 25 = 1 := by kernel_rfl
set_option maxRecDepth 100000 in
theorem dec_Rp {H : Type} {enc : TypeId × Value → H} {W : World} (fuel : Nat) (cs : List Value) (y : DataW H × List MemPlace) (h : DataW.trod enc Try.prog W 0 (fun _ => true) true fuel 28 cs = some y) :
    ∃ a b c, cs = [.int .i64 a, .int .i64 b, .int .i64 c] := by
  obtain ⟨xs, n, _, _, hl, hxl, hf⟩ := DataW.trod_struct Try.underlying28 h
  rw [cellsOf_Rp] at hl
  match cs, hl with
  | [c0, c1, c2], _ =>
    have h0 := hf 0 _ rfl
    have h1 := hf 1 _ rfl
    have h2 := hf 2 _ rfl
    match xs, hxl with
    | [y0, y1, y2], _ =>
      simp [cellsOf_int, cellsOf_en] at h0 h1 h2
      obtain ⟨b0, e0, _, _⟩ := DataW.trod_int Try.underlying3 h0
      obtain ⟨b1, e1, _, _⟩ := DataW.trod_int Try.underlying3 h1
      obtain ⟨b2, e2, _, _⟩ := DataW.trod_int Try.underlying26 h2
      simp only [List.cons.injEq, and_true] at e0 e1 e2
      subst e0 e1 e2
      exact ⟨b0, b1, b2, rfl⟩
set_option maxRecDepth 100000 in
theorem dec_Ca {H : Type} {enc : TypeId × Value → H} {W : World} (fuel : Nat) (cs : List Value) (y : DataW H × List MemPlace) (h : DataW.trod enc Try.prog W 0 (fun _ => true) true fuel 30 cs = some y) :
    ∃ (x : Ca) (L : List Int), cs = encCa x ∧ Ints W W.heap.size x.A x.n L := by
  obtain ⟨xs, n, _, _, hl, hxl, hf⟩ := DataW.trod_struct Try.underlying30 h
  rw [cellsOf_Ca] at hl
  match cs, hl with
  | [c0, c1, c2, c3, c4, c5, c6, c7, c8, c9, c10], _ =>
    have h0 := hf 0 _ rfl
    have h1 := hf 1 _ rfl
    have h2 := hf 2 _ rfl
    have h3 := hf 3 _ rfl
    have h4 := hf 4 _ rfl
    have h5 := hf 5 _ rfl
    have h6 := hf 6 _ rfl
    have h7 := hf 7 _ rfl
    have h8 := hf 8 _ rfl
    match xs, hxl with
    | [y0, y1, y2, y3, y4, y5, y6, y7, y8], _ =>
      simp [cellsOf_int, cellsOf_i8, cellsOf_sli, cellsOf_Rp] at h0 h1 h2 h3 h4 h5 h6 h7 h8
      obtain ⟨b0, e0, _, _⟩ := DataW.trod_int Try.underlying3 h0
      obtain ⟨b1, e1, _, _⟩ := DataW.trod_int Try.underlying3 h1
      obtain ⟨b2, e2, _, _⟩ := DataW.trod_int Try.underlying24 h2
      obtain ⟨b3, e3, _, _⟩ := DataW.trod_int Try.underlying3 h3
      obtain ⟨b4, e4, _, _⟩ := DataW.trod_int Try.underlying3 h4
      obtain ⟨A, m, c, L, e5, hL, _⟩ := dec_Ints Try.underlying25 Try.underlying3 (by kernel_rfl) h5
      obtain ⟨b6, e6, _, _⟩ := DataW.trod_int Try.underlying24 h6
      obtain ⟨b7, e7, _, _⟩ := DataW.trod_int Try.underlying3 h7
      obtain ⟨b8, b9, b10, e8⟩ := dec_Rp _ _ _ h8
      simp only [List.cons.injEq, and_true] at e0 e1 e2 e3 e4 e5 e6 e7 e8
      obtain ⟨rfl, rfl, rfl⟩ := e8
      subst e0 e1 e2 e3 e4 e5 e6 e7
      exact ⟨⟨b0, b1, b2, b3, b4, A, m, c, b6, b7, b8, b9, b10⟩, L, rfl, hL⟩
set_option maxRecDepth 100000 in
theorem dec_Lt {H : Type} {enc : TypeId × Value → H} {W : World} (fuel : Nat) (cs : List Value) (y : DataW H × List MemPlace) (h : DataW.trod enc Try.prog W 0 (fun _ => true) true fuel 38 cs = some y) :
    ∃ a b c d t e, cs = [.int .i8 a, .int .i64 b, .int .i64 c, .int .i64 d, .string t, .int .i64 e] := by
  obtain ⟨xs, n, _, _, hl, hxl, hf⟩ := DataW.trod_struct Try.underlying38 h
  rw [cellsOf_Lt] at hl
  match cs, hl with
  | [c0, c1, c2, c3, c4, c5], _ =>
    have h0 := hf 0 _ rfl
    have h1 := hf 1 _ rfl
    have h2 := hf 2 _ rfl
    have h3 := hf 3 _ rfl
    have h4 := hf 4 _ rfl
    have h5 := hf 5 _ rfl
    match xs, hxl with
    | [y0, y1, y2, y3, y4, y5], _ =>
      simp [cellsOf_int, cellsOf_i8, cellsOf_str, cellsOf_en] at h0 h1 h2 h3 h4 h5
      obtain ⟨b0, e0, _, _⟩ := DataW.trod_int Try.underlying24 h0
      obtain ⟨b1, e1, _, _⟩ := DataW.trod_int Try.underlying3 h1
      obtain ⟨b2, e2, _, _⟩ := DataW.trod_int Try.underlying3 h2
      obtain ⟨b3, e3, _, _⟩ := DataW.trod_int Try.underlying3 h3
      obtain ⟨b4, e4, _, _⟩ := DataW.trod_string Try.underlying9 h4
      obtain ⟨b5, e5, _, _⟩ := DataW.trod_int Try.underlying26 h5
      simp only [List.cons.injEq, and_true] at e0 e1 e2 e3 e4 e5
      subst e0 e1 e2 e3 e4 e5
      exact ⟨b0, b1, b2, b3, b4, b5, rfl⟩
set_option maxRecDepth 100000 in
theorem open_Ca {H : Type} {enc : TypeId × Value → H} {W : World} {b0 : TypeId} {r : Reach} {v : Value} {d : DataW H} {p : List MemPlace}
    (hv : Value.okWide Try.prog W r b0 30 v) (h : DataW.Trod enc Try.prog W 0 (fun _ => true) true 30 v d p) : ∃ (x : Ca) (L : List Int), v = .agg #[.int .i64 x.id, .int .i64 x.done, .int .i8 x.op, .int .i64 x.owner, .int .i64 x.sock, .slice x.A x.n x.c, .int .i8 x.st, .int .i64 x.i, .int .i64 x.rt, .int .i64 x.rs, .int .i64 x.re] ∧ Ints W W.heap.size x.A x.n L := by
  obtain ⟨x, e, L, hL⟩ := open_Rec (encR := encCa) (ok := fun x => ∃ L, Ints W W.heap.size x.A x.n L) Try.underlying30 (fun fuel cs y h => by obtain ⟨x, L, e, hL⟩ := dec_Ca fuel cs y h; exact ⟨x, e, L, hL⟩) hv h
  exact ⟨x, L, e, hL⟩
set_option maxRecDepth 100000 in
theorem open_Lt {H : Type} {enc : TypeId × Value → H} {W : World} {b0 : TypeId} {r : Reach} {v : Value} {d : DataW H} {p : List MemPlace}
    (hv : Value.okWide Try.prog W r b0 38 v) (h : DataW.Trod enc Try.prog W 0 (fun _ => true) true 38 v d p) : ∃ (a b c s : Int) (t : ByteArray) (e : Int), v = .agg #[.int .i8 a, .int .i64 b, .int .i64 c, .int .i64 s, .string t, .int .i64 e] := by
  obtain ⟨x, e, _⟩ := open_Rec (encR := fun x : Int × Int × Int × Int × ByteArray × Int => [.int .i8 x.1, .int .i64 x.2.1, .int .i64 x.2.2.1, .int .i64 x.2.2.2.1, .string x.2.2.2.2.1, .int .i64 x.2.2.2.2.2]) (ok := fun _ => True) Try.underlying38 (fun fuel cs y h => by obtain ⟨a, b, c, s, t, e, q⟩ := dec_Lt fuel cs y h; exact ⟨(a, b, c, s, t, e), q, trivial⟩) hv h
  exact ⟨_, _, _, _, _, _, e⟩
end Go.Proofs.Ytamfbbmkkhcnpaa
