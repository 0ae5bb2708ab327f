/-
  How an argument that is an ideal, or a point, is opened. Conditions: none.
-/
import Derived.Test.YthjanhfjehccoaaDec
import Derived.Test.YthjanhfjehccoaaOpenRec
import Derived.Test.YthjanhfjehccoaaOpenRe
import Derived.Test.YthjanhfjehccoaaPoolNew
import Derived.Test.YthjanhfjehccoaaOpen
namespace Go.Proofs.Ythjanhfjehccoaa
set_option linter.unusedVariables false
set_option linter.unusedSimpArgs false
open Go.ChangeShapes Go.WideShapes Go.ChangeAt Go.RowKit Go.Deep

section
variable {H : Type} {enc : TypeId × Value → H} {P : Program} {W : World}
theorem dec_IntsC {t e : TypeId} {fuel : Nat} {cs : List Value} {y : DataW H × List MemPlace} (ht : P.underlying t = some (.slice e)) (he : P.underlying e = some (.int .i64)) (hc : P.cellsOf e = 1)
    (hf : DataW.trod enc P W 0 (fun _ => true) true fuel t cs = some y) :
    ∃ A n c l, cs = [.slice A n c] ∧ Ints W W.heap.size A n l ∧ n ≤ 9223372036854775807 ∧ n ≤ c ∧ (A = none → c = 0) := by
  obtain ⟨A, n, c, l, rfl, h1, h2, h3⟩ := dec_Ints ht he hc hf
  refine ⟨A, n, c, l, rfl, h1, h2, h3, ?_⟩
  rintro rfl
  rcases open_ints ht he hc hf with ⟨e, _⟩ | ⟨x, n, c, zs, e, _⟩
  · injection e with e
    injection e
  · injection e with e
    injection e with e
    cases e
theorem dec_RecsC {α : Type} {encR : α → List Value} {k : Nat} {ok : α → Prop} (hk : ∀ x, (encR x).length = k) {t e : TypeId} {fuel : Nat} {cs : List Value} {y : DataW H × List MemPlace}
    (ht : P.underlying t = some (.slice e)) (hC : P.cellsOf e = k) (dec : ∀ (fuel : Nat) (cs : List Value) (y : DataW H × List MemPlace), DataW.trod enc P W 0 (fun _ => true) true fuel e cs = some y → ∃ x, cs = encR x ∧ ok x)
    (hf : DataW.trod enc P W 0 (fun _ => true) true fuel t cs = some y) :
    ∃ A n c xs, cs = [.slice A n c] ∧ Recs encR k W W.heap.size A n xs ∧ n ≤ 9223372036854775807 ∧ n ≤ c ∧ (A = none → c = 0) := by
  obtain ⟨A, n, c, xs, rfl, h1, h2, _, h3⟩ := dec_Recs hk ht hC dec hf
  refine ⟨A, n, c, xs, rfl, h1, h2, h3, ?_⟩
  rintro rfl
  rcases open_slice ht hf with ⟨e, _⟩ | ⟨x, n, c, m, q, D, Pl, e, _⟩
  · injection e with e
    injection e
  · injection e with e
    injection e with e
    cases e
end
theorem cellsOf_Cf : Try.prog.cellsOf 23 = 9 := by kernel_rfl
theorem cellsOf_Id : Try.prog.cellsOf 50 = 15 := by kernel_rfl
theorem cellsOf_Pt : Try.prog.cellsOf 38 = 14 := by kernel_rfl
theorem cellsOf_Rp : Try.prog.cellsOf 65 = 3 := by kernel_rfl
theorem cellsOf_sli : Try.prog.cellsOf 25 = 1 := by kernel_rfl
theorem cellsOf_slr : Try.prog.cellsOf 24 = 1 := by kernel_rfl
theorem cellsOf_slp : Try.prog.cellsOf 36 = 1 := by kernel_rfl
theorem cellsOf_b : Try.prog.cellsOf 4 = 1 := by kernel_rfl
theorem cellsOf_i8 : Try.prog.cellsOf 35 = 1 := by kernel_rfl
theorem cellsOf_en : Try.prog.cellsOf 32 = 1 := by kernel_rfl
theorem cellsOf_str : Try.prog.cellsOf 9 = 1 := by kernel_rfl
set_option maxRecDepth 100000 in
theorem dec_Rp {H : Type} {enc : TypeId × Value → H} {W : World} (fuel : Nat) (cs : List Value) (y : DataW H × List MemPlace) (h : DataW.trod enc Try.prog W 0 (fun _ => true) true fuel 65 cs = some y) :
    ∃ x, cs = encRp x ∧ True := by
  obtain ⟨xs, n, _, _, hl, hxl, hf⟩ := DataW.trod_struct Try.underlying65 h
  rw [cellsOf_Rp] at hl
  match cs, hl with
  | [c0, c1, c2], _ =>
    have h0 := hf 0 _ rfl
    have h1 := hf 1 _ rfl
    have h2 := hf 2 _ rfl
    match xs, hxl with
    | [y0, y1, y2], _ =>
      simp [cellsOf_int, cellsOf_en] at h0 h1 h2
      obtain ⟨b0, e0, _, _⟩ := DataW.trod_int Try.underlying3 h0
      obtain ⟨b1, e1, _, _⟩ := DataW.trod_int Try.underlying3 h1
      obtain ⟨b2, e2, _, _⟩ := DataW.trod_int Try.underlying32 h2
      simp only [List.cons.injEq, and_true] at e0 e1 e2
      subst e0 e1 e2
      exact ⟨(b0, b1, b2), rfl, trivial⟩
set_option maxRecDepth 100000 in
theorem dec_Cf {H : Type} {enc : TypeId × Value → H} {W : World} (fuel : Nat) (cs : List Value) (y : DataW H × List MemPlace) (h : DataW.trod enc Try.prog W 0 (fun _ => true) true fuel 23 cs = some y) :
    ∃ x : Cfg, cs = (cfCells x).toList ∧ True := by
  obtain ⟨xs, n, _, _, hl, hxl, hf⟩ := DataW.trod_struct Try.underlying23 h
  rw [cellsOf_Cf] at hl
  match cs, hl with
  | [c0, c1, c2, c3, c4, c5, c6, c7, c8], _ =>
    have h0 := hf 0 _ rfl
    have h1 := hf 1 _ rfl
    have h2 := hf 2 _ rfl
    have h3 := hf 3 _ rfl
    have h4 := hf 4 _ rfl
    have h5 := hf 5 _ rfl
    have h6 := hf 6 _ rfl
    have h7 := hf 7 _ rfl
    have h8 := hf 8 _ rfl
    match xs, hxl with
    | [y0, y1, y2, y3, y4, y5, y6, y7, y8], _ =>
      simp [cellsOf_int] at h0 h1 h2 h3 h4 h5 h6 h7 h8
      obtain ⟨a0, e0, _⟩ := DataW.trod_int Try.underlying3 h0
      obtain ⟨a1, e1, _⟩ := DataW.trod_int Try.underlying3 h1
      obtain ⟨a2, e2, _⟩ := DataW.trod_int Try.underlying3 h2
      obtain ⟨a3, e3, _⟩ := DataW.trod_int Try.underlying3 h3
      obtain ⟨a4, e4, _⟩ := DataW.trod_int Try.underlying3 h4
      obtain ⟨a5, e5, _⟩ := DataW.trod_int Try.underlying3 h5
      obtain ⟨a6, e6, _⟩ := DataW.trod_int Try.underlying3 h6
      obtain ⟨a7, e7, _⟩ := DataW.trod_int Try.underlying3 h7
      obtain ⟨a8, e8, _⟩ := DataW.trod_int Try.underlying3 h8
      simp only [List.cons.injEq, and_true] at e0 e1 e2 e3 e4 e5 e6 e7 e8
      subst e0 e1 e2 e3 e4 e5 e6 e7 e8
      exact ⟨(a0, a1, a2, a3, a4, a5, a6, a7, a8), rfl, trivial⟩
/-- What an argument that is an ideal brings. -/
structure OkId (W : World) (i : Idl) (a : PlA) : Prop where
  free : Res W W.heap.size a.fA i.free.length i.free
  out : Ints W W.heap.size a.oA i.out.length i.out
  line : Ints W W.heap.size a.lA i.line.length i.line
  caps : (i.free.length ≤ a.fc ∧ (a.fA = none → a.fc = 0)) ∧ (i.out.length ≤ a.oc ∧ (a.oA = none → a.oc = 0)) ∧ (i.line.length ≤ a.lc ∧ (a.lA = none → a.lc = 0))
set_option maxRecDepth 100000 in
theorem dec_Id {H : Type} {enc : TypeId × Value → H} {W : World} (fuel : Nat) (cs : List Value) (y : DataW H × List MemPlace) (h : DataW.trod enc Try.prog W 0 (fun _ => true) true fuel 50 cs = some y) :
    ∃ x : Idl × PlA, cs = (idCells x.1 x.2).toList ∧ OkId W x.1 x.2 := by
  obtain ⟨xs, n, _, _, hl, hxl, hf⟩ := DataW.trod_struct Try.underlying50 h
  rw [cellsOf_Id] at hl
  match cs, hl with
  | [c0, c1, c2, c3, c4, c5, c6, c7, c8, c9, c10, c11, c12, c13, c14], _ =>
    have h0 := hf 0 _ rfl
    have h1 := hf 1 _ rfl
    have h2 := hf 2 _ rfl
    have h3 := hf 3 _ rfl
    have h4 := hf 4 _ rfl
    have h5 := hf 5 _ rfl
    have h6 := hf 6 _ rfl
    match xs, hxl with
    | [y0, y1, y2, y3, y4, y5, y6], _ =>
      simp [cellsOf_Cf, cellsOf_sli, cellsOf_slr, cellsOf_b] at h0 h1 h2 h3 h4 h5 h6
      obtain ⟨cf, e0, _⟩ := dec_Cf _ _ _ h0
      obtain ⟨fA, fn, fc, fl, e1, hfl, _, hfn, hfc⟩ := dec_RecsC (encR := encRe) (ok := okRe) encRe_len Try.underlying24 cellsOf_Re dec_Re h1
      obtain ⟨oA, on, oc, ol, e2, hol, _, hon, hoc⟩ := dec_IntsC Try.underlying25 Try.underlying3 (by kernel_rfl) h2
      obtain ⟨lA, ln, lc, ll, e3, hll, _, hln, hlc⟩ := dec_IntsC Try.underlying25 Try.underlying3 (by kernel_rfl) h3
      obtain ⟨b4, e4, _⟩ := DataW.trod_bool Try.underlying4 h4
      obtain ⟨b5, e5, _⟩ := DataW.trod_bool Try.underlying4 h5
      obtain ⟨b6, e6, _⟩ := DataW.trod_bool Try.underlying4 h6
      simp only [List.cons.injEq, and_true] at e1 e2 e3 e4 e5 e6
      simp only [cfCells, List.cons.injEq, and_true] at e0
      obtain ⟨r1, r2, r3, r4, r5, r6, r7, r8, r9⟩ := e0
      have q1 := hfl.1
      have q2 := hol.len
      have q3 := hll.len
      subst q1 q2 q3 e1 e2 e3 e4 e5 e6 r1 r2 r3 r4 r5 r6 r7 r8 r9
      exact ⟨(⟨cf, fl, ol, ll, b4, b5, b6⟩, ⟨fA, fc, oA, oc, lA, lc, none, 0, none, 0, none, 0⟩), rfl, ⟨hfl, hol, hll, ⟨⟨hfn, hfc⟩, ⟨hon, hoc⟩, ⟨hln, hlc⟩⟩⟩⟩
/-- What an argument that is a point brings. -/
structure OkPt (W : World) (p : Pnt) (a : PlA) : Prop where
  rd : PtRd p a W
  kind : -128 ≤ p.kind ∧ p.kind ≤ 127
set_option maxRecDepth 100000 in
theorem dec_Pt {H : Type} {enc : TypeId × Value → H} {W : World} (fuel : Nat) (cs : List Value) (y : DataW H × List MemPlace) (h : DataW.trod enc Try.prog W 0 (fun _ => true) true fuel 38 cs = some y) :
    ∃ x : Pnt × PlA, cs = (ptCells x.1 x.2).toList ∧ OkPt W x.1 x.2 := by
  obtain ⟨xs, n, _, _, hl, hxl, hf⟩ := DataW.trod_struct Try.underlying38 h
  rw [cellsOf_Pt] at hl
  match cs, hl with
  | [c0, c1, c2, c3, c4, c5, c6, c7, c8, c9, c10, c11, c12, c13], _ =>
    have h0 := hf 0 _ rfl
    have h1 := hf 1 _ rfl
    have h2 := hf 2 _ rfl
    have h3 := hf 3 _ rfl
    have h4 := hf 4 _ rfl
    have h5 := hf 5 _ rfl
    have h6 := hf 6 _ rfl
    have h7 := hf 7 _ rfl
    have h8 := hf 8 _ rfl
    have h9 := hf 9 _ rfl
    have h10 := hf 10 _ rfl
    have h11 := hf 11 _ rfl
    have h12 := hf 12 _ rfl
    have h13 := hf 13 _ rfl
    match xs, hxl with
    | [y0, y1, y2, y3, y4, y5, y6, y7, y8, y9, y10, y11, y12, y13], _ =>
      simp [cellsOf_int, cellsOf_i8, cellsOf_b, cellsOf_en, cellsOf_str, cellsOf_sli, cellsOf_slp] at h0 h1 h2 h3 h4 h5 h6 h7 h8 h9 h10 h11 h12 h13
      obtain ⟨a0, e0, _, w0⟩ := DataW.trod_int Try.underlying35 h0
      obtain ⟨a1, e1, _⟩ := DataW.trod_int Try.underlying3 h1
      obtain ⟨a2, e2, _⟩ := DataW.trod_int Try.underlying3 h2
      obtain ⟨a3, e3, _⟩ := DataW.trod_int Try.underlying3 h3
      obtain ⟨a4, e4, _⟩ := DataW.trod_int Try.underlying3 h4
      obtain ⟨a5, e5, _⟩ := DataW.trod_int Try.underlying3 h5
      obtain ⟨a6, e6, _⟩ := DataW.trod_bool Try.underlying4 h6
      obtain ⟨a7, e7, _⟩ := DataW.trod_int Try.underlying32 h7
      obtain ⟨a8, e8, _⟩ := DataW.trod_string Try.underlying9 h8
      obtain ⟨dA, dn, dc, dl, e9, hdl, _, hdn, hdc⟩ := dec_IntsC Try.underlying25 Try.underlying3 (by kernel_rfl) h9
      obtain ⟨rA, rn, rc, rl, e10, hrl, _, hrn, hrc⟩ := dec_RecsC (encR := encRp) (ok := fun _ => True) encRp_len Try.underlying36 cellsOf_Rp dec_Rp h10
      obtain ⟨sA, sn, sc, sl, e11, hsl, _, hsn, hsc⟩ := dec_IntsC Try.underlying25 Try.underlying3 (by kernel_rfl) h11
      obtain ⟨a12, e12, _⟩ := DataW.trod_bool Try.underlying4 h12
      obtain ⟨a13, e13, _⟩ := DataW.trod_bool Try.underlying4 h13
      simp only [List.cons.injEq, and_true] at e0 e1 e2 e3 e4 e5 e6 e7 e8 e9 e10 e11 e12 e13
      have q1 := hdl.len
      have q2 := hrl.1
      have q3 := hsl.len
      subst q1 q2 q3 e0 e1 e2 e3 e4 e5 e6 e7 e8 e9 e10 e11 e12 e13
      exact ⟨(⟨a0, a1, a2, a3, a4, a5, a6, a7, a8, dl, rl, sl, a12, a13⟩, ⟨none, 0, none, 0, none, 0, dA, dc, rA, rc, sA, sc⟩), rfl, ⟨⟨hdl, hrl, hsl⟩, by simpa [Lit.wf, IntKind.min, IntKind.max, IntKind.signed, IntKind.bits] using w0⟩⟩
set_option maxRecDepth 100000 in
theorem open_Id {H : Type} {enc : TypeId × Value → H} {W : World} {b0 : TypeId} {r : Reach} {v : Value} {d : DataW H} {p : List MemPlace}
    (hv : Value.okWide Try.prog W r b0 50 v) (h : DataW.Trod enc Try.prog W 0 (fun _ => true) true 50 v d p) : ∃ i a, v = .agg (idCells i a) ∧ OkId W i a := by
  obtain ⟨x, e, hw⟩ := open_Rec (encR := fun x : Idl × PlA => (idCells x.1 x.2).toList) (ok := fun x => OkId W x.1 x.2) Try.underlying50 dec_Id hv h
  exact ⟨x.1, x.2, e, hw⟩
set_option maxRecDepth 100000 in
theorem open_Pt {H : Type} {enc : TypeId × Value → H} {W : World} {b0 : TypeId} {r : Reach} {v : Value} {d : DataW H} {p : List MemPlace}
    (hv : Value.okWide Try.prog W r b0 38 v) (h : DataW.Trod enc Try.prog W 0 (fun _ => true) true 38 v d p) : ∃ q a, v = .agg (ptCells q a) ∧ OkPt W q a := by
  obtain ⟨x, e, hw⟩ := open_Rec (encR := fun x : Pnt × PlA => (ptCells x.1 x.2).toList) (ok := fun x => OkPt W x.1 x.2) Try.underlying38 dec_Pt hv h
  exact ⟨x.1, x.2, e, hw⟩
end Go.Proofs.Ythjanhfjehccoaa
