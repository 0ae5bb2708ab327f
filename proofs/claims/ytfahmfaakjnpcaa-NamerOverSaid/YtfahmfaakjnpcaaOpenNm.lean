/-
  How an argument that is a namer is opened. Conditions: none.
-/
import Derived.Test.YtfahmfaakjnpcaaOpenLm
import Derived.Test.YtfahmfaakjnpcaaNmGreat
namespace Go.Proofs.Ytfahmfaakjnpcaa
set_option linter.unusedVariables false
set_option linter.unusedSimpArgs false
open Go.ChangeShapes Go.WideShapes Go.ChangeAt Go.RowKit Go.Deep

section
variable {H : Type} {enc : TypeId × Value → H} {P : Program} {W : World}
theorem dec_IntsC {t e : TypeId} {fuel : Nat} {cs : List Value} {y : DataW H × List MemPlace} (ht : P.underlying t = some (.slice e)) (he : P.underlying e = some (.int .i64)) (hc : P.cellsOf e = 1)
    (hf : DataW.trod enc P W 0 (fun _ => true) true fuel t cs = some y) :
    ∃ A n c l, cs = [.slice A n c] ∧ Ints W W.heap.size A n l ∧ n ≤ 9223372036854775807 ∧ n ≤ c ∧ (A = none → c = 0) := by
  obtain ⟨A, n, c, l, rfl, h1, h2, h3⟩ := dec_Ints ht he hc hf
  refine ⟨A, n, c, l, rfl, h1, h2, h3, ?_⟩
  rintro rfl
  rcases open_ints ht he hc hf with ⟨e, _⟩ | ⟨x, n, c, zs, e, _⟩
  · injection e with e
    injection e
  · injection e with e
    injection e with e
    cases e
end
theorem cellsOf_Fl : Try.prog.cellsOf 82 = 3 := by kernel_rfl
theorem cellsOf_Kn : Try.prog.cellsOf 110 = 4 := by kernel_rfl
theorem cellsOf_Cf : Try.prog.cellsOf 25 = 9 := by kernel_rfl
theorem cellsOf_Nm : Try.prog.cellsOf 29 = 13 := by kernel_rfl
theorem cellsOf_sli : Try.prog.cellsOf 34 = 1 := by kernel_rfl
theorem cellsOf_slk : Try.prog.cellsOf 26 = 1 := by kernel_rfl
theorem cellsOf_slf : Try.prog.cellsOf 27 = 1 := by kernel_rfl
theorem cellsOf_b : Try.prog.cellsOf 4 = 1 := by kernel_rfl
def okFx (W : World) (p : Fx) : Prop := (Ints W W.heap.size p.1.A p.1.n p.2 ∧ p.1.n ≤ p.1.c ∧ (p.1.A = none → p.1.c = 0)) ∧ p.1.n ≤ 9223372036854775807
set_option maxRecDepth 100000 in
theorem dec_Fl {H : Type} {enc : TypeId × Value → H} {W : World} (fuel : Nat) (cs : List Value) (y : DataW H × List MemPlace) (h : DataW.trod enc Try.prog W 0 (fun _ => true) true fuel 82 cs = some y) :
    ∃ p : Fx, cs = encFl p.1 ∧ okFx W p := by
  obtain ⟨xs, n, _, _, hl, hxl, hf⟩ := DataW.trod_struct Try.underlying82 h
  rw [cellsOf_Fl] at hl
  match cs, hl with
  | [c0, c1, c2], _ =>
    have h0 := hf 0 _ rfl
    have h1 := hf 1 _ rfl
    have h2 := hf 2 _ rfl
    match xs, hxl with
    | [y0, y1, y2], _ =>
      simp [cellsOf_int, cellsOf_str, cellsOf_sli] at h0 h1 h2
      obtain ⟨b0, e0, _, _⟩ := DataW.trod_string Try.underlying9 h0
      obtain ⟨b1, e1, _, _⟩ := DataW.trod_int Try.underlying3 h1
      obtain ⟨A, n, c, l, e2, hI, hn, hc, hA⟩ := dec_IntsC Try.underlying34 Try.underlying3 (by kernel_rfl) h2
      simp only [List.cons.injEq, and_true] at e0 e1 e2
      subst e0 e1 e2
      exact ⟨(⟨b0, b1, A, n, c⟩, l), rfl, ⟨hI, hc, hA⟩, hn⟩
set_option maxRecDepth 100000 in
theorem dec_Kn {H : Type} {enc : TypeId × Value → H} {W : World} (fuel : Nat) (cs : List Value) (y : DataW H × List MemPlace) (h : DataW.trod enc Try.prog W 0 (fun _ => true) true fuel 110 cs = some y) :
    ∃ x, cs = encKn x ∧ True := by
  obtain ⟨xs, n, _, _, hl, hxl, hf⟩ := DataW.trod_struct Try.underlying110 h
  rw [cellsOf_Kn] at hl
  match cs, hl with
  | [c0, c1, c2, c3], _ =>
    have h0 := hf 0 _ rfl
    have h1 := hf 1 _ rfl
    have h2 := hf 2 _ rfl
    have h3 := hf 3 _ rfl
    match xs, hxl with
    | [y0, y1, y2, y3], _ =>
      simp [cellsOf_int, cellsOf_en, cellsOf_str] at h0 h1 h2 h3
      obtain ⟨a0, e0, _⟩ := DataW.trod_string Try.underlying9 h0
      obtain ⟨a1, e1, _⟩ := DataW.trod_string Try.underlying9 h1
      obtain ⟨a2, e2, _⟩ := DataW.trod_int Try.underlying38 h2
      obtain ⟨a3, e3, _⟩ := DataW.trod_int Try.underlying3 h3
      simp only [List.cons.injEq, and_true] at e0 e1 e2 e3
      subst e0 e1 e2 e3
      exact ⟨(a0, a1, a2, a3), rfl, trivial⟩
set_option maxRecDepth 100000 in
theorem dec_Cf {H : Type} {enc : TypeId × Value → H} {W : World} (fuel : Nat) (cs : List Value) (y : DataW H × List MemPlace) (h : DataW.trod enc Try.prog W 0 (fun _ => true) true fuel 25 cs = some y) :
    ∃ x : Cf, cs = [.int .i64 x.1, .int .i64 x.2.1, .int .i64 x.2.2.1, .int .i64 x.2.2.2.1, .int .i64 x.2.2.2.2.1, .int .i64 x.2.2.2.2.2.1, .int .i64 x.2.2.2.2.2.2.1, .int .i64 x.2.2.2.2.2.2.2.1, .int .i64 x.2.2.2.2.2.2.2.2] ∧ True := by
  obtain ⟨xs, n, _, _, hl, hxl, hf⟩ := DataW.trod_struct Try.underlying25 h
  rw [cellsOf_Cf] at hl
  match cs, hl with
  | [c0, c1, c2, c3, c4, c5, c6, c7, c8], _ =>
    have h0 := hf 0 _ rfl
    have h1 := hf 1 _ rfl
    have h2 := hf 2 _ rfl
    have h3 := hf 3 _ rfl
    have h4 := hf 4 _ rfl
    have h5 := hf 5 _ rfl
    have h6 := hf 6 _ rfl
    have h7 := hf 7 _ rfl
    have h8 := hf 8 _ rfl
    match xs, hxl with
    | [y0, y1, y2, y3, y4, y5, y6, y7, y8], _ =>
      simp [cellsOf_int] at h0 h1 h2 h3 h4 h5 h6 h7 h8
      obtain ⟨a0, e0, _⟩ := DataW.trod_int Try.underlying3 h0
      obtain ⟨a1, e1, _⟩ := DataW.trod_int Try.underlying3 h1
      obtain ⟨a2, e2, _⟩ := DataW.trod_int Try.underlying3 h2
      obtain ⟨a3, e3, _⟩ := DataW.trod_int Try.underlying3 h3
      obtain ⟨a4, e4, _⟩ := DataW.trod_int Try.underlying3 h4
      obtain ⟨a5, e5, _⟩ := DataW.trod_int Try.underlying3 h5
      obtain ⟨a6, e6, _⟩ := DataW.trod_int Try.underlying3 h6
      obtain ⟨a7, e7, _⟩ := DataW.trod_int Try.underlying3 h7
      obtain ⟨a8, e8, _⟩ := DataW.trod_int Try.underlying3 h8
      simp only [List.cons.injEq, and_true] at e0 e1 e2 e3 e4 e5 e6 e7 e8
      subst e0 e1 e2 e3 e4 e5 e6 e7 e8
      exact ⟨(a0, a1, a2, a3, a4, a5, a6, a7, a8), rfl, trivial⟩
abbrev NmArg := NmH × List Kn × List Fx
def encNm (x : NmArg) : List Value := [.int .i64 x.1.id, .int .i64 x.1.cf.1, .int .i64 x.1.cf.2.1, .int .i64 x.1.cf.2.2.1, .int .i64 x.1.cf.2.2.2.1, .int .i64 x.1.cf.2.2.2.2.1, .int .i64 x.1.cf.2.2.2.2.2.1, .int .i64 x.1.cf.2.2.2.2.2.2.1, .int .i64 x.1.cf.2.2.2.2.2.2.2.1, .int .i64 x.1.cf.2.2.2.2.2.2.2.2, .slice x.1.kA x.1.kn x.1.kc, .slice x.1.fA x.1.fn x.1.fc, .bool x.1.over]
/-- What an argument that is a namer brings. -/
def okNm (W : World) (x : NmArg) : Prop := NmIs W W.heap.size x.1 x.2.1 x.2.2 ∧ x.1.kn ≤ 9223372036854775807 ∧ x.1.fn ≤ 9223372036854775807 ∧ ∀ p ∈ x.2.2, p.1.n ≤ 9223372036854775807
set_option maxRecDepth 100000 in
theorem dec_Nm {H : Type} {enc : TypeId × Value → H} {W : World} (fuel : Nat) (cs : List Value) (y : DataW H × List MemPlace) (h : DataW.trod enc Try.prog W 0 (fun _ => true) true fuel 29 cs = some y) :
    ∃ x : NmArg, cs = encNm x ∧ okNm W x := by
  obtain ⟨xs, n, _, _, hl, hxl, hf⟩ := DataW.trod_struct Try.underlying29 h
  rw [cellsOf_Nm] at hl
  match cs, hl with
  | [c0, c1, c2, c3, c4, c5, c6, c7, c8, c9, c10, c11, c12], _ =>
    have h0 := hf 0 _ rfl
    have h1 := hf 1 _ rfl
    have h2 := hf 2 _ rfl
    have h3 := hf 3 _ rfl
    have h4 := hf 4 _ rfl
    match xs, hxl with
    | [y0, y1, y2, y3, y4], _ =>
      simp [cellsOf_int, cellsOf_Cf, cellsOf_slk, cellsOf_slf, cellsOf_b] at h0 h1 h2 h3 h4
      obtain ⟨a0, e0, _⟩ := DataW.trod_int Try.underlying3 h0
      obtain ⟨cf, e1, _⟩ := dec_Cf _ _ _ h1
      obtain ⟨kA, kn, kc, l, e2, hk, hkn, _, hkc⟩ := dec_Recs (encR := encKn) (ok := fun _ => True) encKn_len Try.underlying26 cellsOf_Kn dec_Kn h2
      obtain ⟨fA, fn, fc, fs, e3, hfs, hfn, hok, hfc⟩ := dec_Recs (encR := fun p : Fx => encFl p.1) (ok := okFx W) (fun _ => rfl) Try.underlying27 cellsOf_Fl dec_Fl h3
      obtain ⟨a4, e4, _⟩ := DataW.trod_bool Try.underlying4 h4
      simp only [List.cons.injEq, and_true] at e0 e1 e2 e3 e4
      obtain ⟨r1, r2, r3, r4, r5, r6, r7, r8, r9⟩ := e1
      subst e0 e2 e3 e4 r1 r2 r3 r4 r5 r6 r7 r8 r9
      refine ⟨(⟨a0, cf, kA, kn, kc, fA, fn, fc, a4⟩, l, fs), rfl, ⟨hk, ⟨⟨by rw [List.length_map]; exact hfs.1, ?_⟩, fun p hp => (hok p hp).1⟩, hkc, hfc⟩, hkn, hfn, fun p hp => (hok p hp).2⟩
      rw [List.flatMap_map]
      exact hfs.2
set_option maxRecDepth 100000 in
theorem open_Nm {H : Type} {enc : TypeId × Value → H} {W : World} {b0 : TypeId} {r : Reach} {v : Value} {d : DataW H} {p : List MemPlace}
    (hv : Value.okWide Try.prog W r b0 29 v) (h : DataW.Trod enc Try.prog W 0 (fun _ => true) true 29 v d p) : ∃ x : NmArg, v = .agg #[.int .i64 x.1.id, .int .i64 x.1.cf.1, .int .i64 x.1.cf.2.1, .int .i64 x.1.cf.2.2.1, .int .i64 x.1.cf.2.2.2.1, .int .i64 x.1.cf.2.2.2.2.1, .int .i64 x.1.cf.2.2.2.2.2.1, .int .i64 x.1.cf.2.2.2.2.2.2.1, .int .i64 x.1.cf.2.2.2.2.2.2.2.1, .int .i64 x.1.cf.2.2.2.2.2.2.2.2, .slice x.1.kA x.1.kn x.1.kc, .slice x.1.fA x.1.fn x.1.fc, .bool x.1.over] ∧ okNm W x := by
  obtain ⟨x, e, hw⟩ := open_Rec (encR := encNm) (ok := okNm W) Try.underlying29 dec_Nm hv h
  exact ⟨x, e, hw⟩
end Go.Proofs.Ytfahmfaakjnpcaa
