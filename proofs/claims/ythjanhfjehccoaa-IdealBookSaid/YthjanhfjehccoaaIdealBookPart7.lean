/-
  How an argument that is a book is opened. Conditions: none.
-/
import Derived.Test.YthjanhfjehccoaaOpenId
import Derived.Test.YthjanhfjehccoaaIdealBookPart6
namespace Go.Proofs.Ythjanhfjehccoaa
set_option linter.unusedVariables false
set_option linter.unusedSimpArgs false
open Go.ChangeShapes Go.WideShapes Go.ChangeAt Go.RowKit Go.Deep

theorem cellsOf_Ad : Try.prog.cellsOf 103 = 10 := by kernel_rfl
theorem cellsOf_Sc : Try.prog.cellsOf 105 = 11 := by kernel_rfl
theorem cellsOf_u16 : Try.prog.cellsOf 100 = 1 := by kernel_rfl
theorem cellsOf_G : Try.prog.cellsOf 101 = 8 := by kernel_rfl
theorem cellsOf_Fl : Try.prog.cellsOf 27 = 3 := by kernel_rfl
theorem cellsOf_Bk : Try.prog.cellsOf 30 = 17 := by kernel_rfl
theorem cellsOf_sls : Try.prog.cellsOf 28 = 1 := by kernel_rfl
def okAd (_ : Ad) : Prop := True
def okSc (x : Sc) : Prop := (Lit.int .i64 x.2).wf = true
set_option maxRecDepth 100000 in
theorem dec_G {H : Type} {enc : TypeId × Value → H} {W : World} (fuel : Nat) (cs : List Value) (y : DataW H × List MemPlace) (h : DataW.trod enc Try.prog W 0 (fun _ => true) true fuel 101 cs = some y) :
    ∃ a0 a1 a2 a3 a4 a5 a6 a7 : Int, cs = [.int .u16 a0, .int .u16 a1, .int .u16 a2, .int .u16 a3, .int .u16 a4, .int .u16 a5, .int .u16 a6, .int .u16 a7] := by
  obtain ⟨xs, n, _, _, hl, hxl, hf⟩ := DataW.trod_array Try.underlying101 h
  rw [cellsOf_G] at hl
  rw [cellsOf_u16] at hf
  match cs, hl with
  | [c0, c1, c2, c3, c4, c5, c6, c7], _ =>
    match xs, hxl with
    | [y0, y1, y2, y3, y4, y5, y6, y7], _ =>
      have h0 := hf 0 (by omega)
      have h1 := hf 1 (by omega)
      have h2 := hf 2 (by omega)
      have h3 := hf 3 (by omega)
      have h4 := hf 4 (by omega)
      have h5 := hf 5 (by omega)
      have h6 := hf 6 (by omega)
      have h7 := hf 7 (by omega)
      simp only [Nat.zero_mul, Nat.mul_one, List.drop_zero, List.drop_succ_cons, List.take_succ_cons, List.take_zero, List.getElem?_cons_zero, List.getElem?_cons_succ] at h0 h1 h2 h3 h4 h5 h6 h7
      obtain ⟨a0, e0, _, _⟩ := DataW.trod_int Try.underlying100 h0
      obtain ⟨a1, e1, _, _⟩ := DataW.trod_int Try.underlying100 h1
      obtain ⟨a2, e2, _, _⟩ := DataW.trod_int Try.underlying100 h2
      obtain ⟨a3, e3, _, _⟩ := DataW.trod_int Try.underlying100 h3
      obtain ⟨a4, e4, _, _⟩ := DataW.trod_int Try.underlying100 h4
      obtain ⟨a5, e5, _, _⟩ := DataW.trod_int Try.underlying100 h5
      obtain ⟨a6, e6, _, _⟩ := DataW.trod_int Try.underlying100 h6
      obtain ⟨a7, e7, _, _⟩ := DataW.trod_int Try.underlying100 h7
      simp only [List.cons.injEq, and_true] at e0 e1 e2 e3 e4 e5 e6 e7
      subst e0 e1 e2 e3 e4 e5 e6 e7
      exact ⟨a0, a1, a2, a3, a4, a5, a6, a7, rfl⟩
set_option maxRecDepth 100000 in
theorem dec_Ad {H : Type} {enc : TypeId × Value → H} {W : World} (fuel : Nat) (cs : List Value) (y : DataW H × List MemPlace) (h : DataW.trod enc Try.prog W 0 (fun _ => true) true fuel 103 cs = some y) :
    ∃ x, cs = encAd x ∧ okAd x := by
  obtain ⟨xs, n, _, _, hl, hxl, hf⟩ := DataW.trod_struct Try.underlying103 h
  rw [cellsOf_Ad] at hl
  match cs, hl with
  | [c0, c1, c2, c3, c4, c5, c6, c7, c8, c9], _ =>
    have h0 := hf 0 _ rfl
    have h1 := hf 1 _ rfl
    have h2 := hf 2 _ rfl
    match xs, hxl with
    | [y0, y1, y2], _ =>
      simp [cellsOf_int, cellsOf_i8, cellsOf_G] at h0 h1 h2
      obtain ⟨b0, e0, _, _⟩ := DataW.trod_int Try.underlying35 h0
      obtain ⟨a0, a1, a2, a3, a4, a5, a6, a7, e1⟩ := dec_G _ _ _ h1
      obtain ⟨b1, e2, _, _⟩ := DataW.trod_int Try.underlying3 h2
      simp only [List.cons.injEq, and_true] at e0 e1 e2
      obtain ⟨rfl, rfl, rfl, rfl, rfl, rfl, rfl, rfl⟩ := e1
      subst e0 e2
      exact ⟨(b0, a0, a1, a2, a3, a4, a5, a6, a7, b1), rfl, trivial⟩
set_option maxRecDepth 100000 in
theorem dec_Sc {H : Type} {enc : TypeId × Value → H} {W : World} (fuel : Nat) (cs : List Value) (y : DataW H × List MemPlace) (h : DataW.trod enc Try.prog W 0 (fun _ => true) true fuel 105 cs = some y) :
    ∃ x, cs = encSc x ∧ okSc x := by
  obtain ⟨xs, n, _, _, hl, hxl, hf⟩ := DataW.trod_struct Try.underlying105 h
  rw [cellsOf_Sc] at hl
  match cs, hl with
  | [c0, c1, c2, c3, c4, c5, c6, c7, c8, c9, c10], _ =>
    have h0 := hf 0 _ rfl
    have h1 := hf 1 _ rfl
    match xs, hxl with
    | [y0, y1], _ =>
      simp [cellsOf_int, cellsOf_Ad] at h0 h1
      obtain ⟨x, e0, _⟩ := dec_Ad _ _ _ h0
      obtain ⟨b1, e1, _, w1⟩ := DataW.trod_int Try.underlying3 h1
      unfold encAd at e0
      simp only [List.cons.injEq, and_true] at e0 e1
      obtain ⟨rfl, rfl, rfl, rfl, rfl, rfl, rfl, rfl, rfl, rfl⟩ := e0
      subst e1
      exact ⟨(x, b1), rfl, w1⟩

set_option maxRecDepth 100000 in
theorem dec_Flt {H : Type} {enc : TypeId × Value → H} {W : World} (fuel : Nat) (cs : List Value) (y : DataW H × List MemPlace) (h : DataW.trod enc Try.prog W 0 (fun _ => true) true fuel 27 cs = some y) :
    ∃ (r : Int) (c : Bool) (n : Int), cs = [.int .i64 r, .bool c, .int .i64 n] := by
  obtain ⟨xs, n, _, _, hl, hxl, hf⟩ := DataW.trod_struct Try.underlying27 h
  rw [cellsOf_Fl] at hl
  match cs, hl with
  | [c0, c1, c2], _ =>
    have h0 := hf 0 _ rfl
    have h1 := hf 1 _ rfl
    have h2 := hf 2 _ rfl
    match xs, hxl with
    | [y0, y1, y2], _ =>
      simp [cellsOf_int, cellsOf_b] at h0 h1 h2
      obtain ⟨b0, e0, _, _⟩ := DataW.trod_int Try.underlying3 h0
      obtain ⟨b1, e1, _⟩ := DataW.trod_bool Try.underlying4 h1
      obtain ⟨b2, e2, _, _⟩ := DataW.trod_int Try.underlying3 h2
      simp only [List.cons.injEq, and_true] at e0 e1 e2
      subst e0 e1 e2
      exact ⟨b0, b1, b2, rfl⟩
/-- What an argument that is a book brings. -/
structure OkBk (W : World) (b : Bok) (a : BokA) (sl : List Sc) : Prop where
  free : Res W W.heap.size a.iA b.idle.length b.idle
  leased : Ints W W.heap.size a.lA b.leased.length b.leased
  wait : Ints W W.heap.size a.wA b.wait.length b.wait
  caps : (b.idle.length ≤ a.ic ∧ (a.iA = none → a.ic = 0)) ∧ (b.leased.length ≤ a.lc ∧ (a.lA = none → a.lc = 0)) ∧ (b.wait.length ≤ a.wc ∧ (a.wA = none → a.wc = 0))
  scars : Scs W W.heap.size a.sA a.sn sl
set_option maxRecDepth 100000 in
theorem dec_Bk {H : Type} {enc : TypeId × Value → H} {W : World} (fuel : Nat) (cs : List Value) (y : DataW H × List MemPlace) (h : DataW.trod enc Try.prog W 0 (fun _ => true) true fuel 30 cs = some y) :
    ∃ x : Bok × BokA × List Sc, cs = (bkCells x.1 x.2.1).toList ∧ OkBk W x.1 x.2.1 x.2.2 := by
  obtain ⟨xs, n, _, _, hl, hxl, hf⟩ := DataW.trod_struct Try.underlying30 h
  rw [cellsOf_Bk] at hl
  match cs, hl with
  | [c0, c1, c2, c3, c4, c5, c6, c7, c8, c9, c10, c11, c12, c13, c14, c15, c16], _ =>
    have h0 := hf 0 _ rfl
    have h1 := hf 1 _ rfl
    have h2 := hf 2 _ rfl
    have h3 := hf 3 _ rfl
    have h4 := hf 4 _ rfl
    have h5 := hf 5 _ rfl
    have h6 := hf 6 _ rfl
    match xs, hxl with
    | [y0, y1, y2, y3, y4, y5, y6], _ =>
      simp [cellsOf_Cf, cellsOf_sli, cellsOf_slr, cellsOf_sls, cellsOf_Fl, cellsOf_b] at h0 h1 h2 h3 h4 h5 h6
      obtain ⟨cf, e0, _⟩ := dec_Cf _ _ _ h0
      obtain ⟨fA, fn, fc, fl, e1, hfl, _, hfn, hfc⟩ := dec_RecsC (encR := encRe) (ok := okRe) encRe_len Try.underlying24 cellsOf_Re dec_Re h1
      obtain ⟨oA, on, oc, ol, e2, hol, _, hon, hoc⟩ := dec_IntsC Try.underlying25 Try.underlying3 (by kernel_rfl) h2
      obtain ⟨lA, ln, lc, ll, e3, hll, _, hln, hlc⟩ := dec_IntsC Try.underlying25 Try.underlying3 (by kernel_rfl) h3
      obtain ⟨r, ct, rf, e4⟩ := dec_Flt _ _ _ h4
      obtain ⟨sA, sn, sc, sl, e5, hsl, _, _, _⟩ := dec_RecsC (encR := encSc) (ok := okSc) encSc_len Try.underlying28 cellsOf_Sc dec_Sc h5
      obtain ⟨b6, e6, _⟩ := DataW.trod_bool Try.underlying4 h6
      simp only [List.cons.injEq, and_true] at e1 e2 e3 e4 e5 e6
      simp only [cfCells, List.cons.injEq, and_true] at e0
      obtain ⟨r1, r2, r3, r4, r5, r6, r7, r8, r9⟩ := e0
      obtain ⟨p1, p2, p3⟩ := e4
      have q1 := hfl.1
      have q2 := hol.len
      have q3 := hll.len
      subst q1 q2 q3 e1 e2 e3 e5 e6 r1 r2 r3 r4 r5 r6 r7 r8 r9 p1 p2 p3
      exact ⟨(⟨cf, fl, ol, ll, r, ct, rf, b6⟩, ⟨fA, fc, oA, oc, lA, lc, sA, sn, sc⟩, sl), rfl, ⟨hfl, hol, hll, ⟨⟨hfn, hfc⟩, ⟨hon, hoc⟩, ⟨hln, hlc⟩⟩, hsl⟩⟩
set_option maxRecDepth 100000 in
theorem open_Bk {H : Type} {enc : TypeId × Value → H} {W : World} {b0 : TypeId} {r : Reach} {v : Value} {d : DataW H} {p : List MemPlace}
    (hv : Value.okWide Try.prog W r b0 30 v) (h : DataW.Trod enc Try.prog W 0 (fun _ => true) true 30 v d p) : ∃ b a sl, v = .agg (bkCells b a) ∧ OkBk W b a sl := by
  obtain ⟨x, e, hw⟩ := open_Rec (encR := fun x : Bok × BokA × List Sc => (bkCells x.1 x.2.1).toList) (ok := fun x => OkBk W x.1 x.2.1 x.2.2) Try.underlying30 dec_Bk hv h
  exact ⟨x.1, x.2.1, x.2.2, e, hw⟩
end Go.Proofs.Ythjanhfjehccoaa
