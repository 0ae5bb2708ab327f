/-
  What the document's small example of the ideal says holds. Conditions: none.
-/
import Derived.Test.YthjanhfjehccoaaPoolAns
import Derived.Test.YthjanhfjehccoaaPoolNew
namespace Go.Proofs.Ythjanhfjehccoaa
set_option linter.unusedVariables false
set_option linter.unusedSimpArgs false
open Go.RowKit

def mg (a b : PlA) : PlA := ⟨a.fA, a.fc, a.oA, a.oc, a.lA, a.lc, b.dA, b.dc, b.rA, b.rc, b.sA, b.sc⟩
theorem Rd.ansIn {z : Pol} {a : PlA} {w : World} (h : Rd z a w) (p : Pnt) (hd : p.dead = []) (hk : -128 ≤ p.kind ∧ p.kind ≤ 127) (hf : z.i.free.length ≤ 100) (ho : z.i.out.length ≤ 100) (hl : z.i.line.length ≤ 100) : AnsIn z.i p (mg a pla0) w := by
  refine ⟨⟨h.1.1, h.1.2.1, h.1.2.2.1, ?_⟩, h.2.2.2, hf, ho, hl, by rw [hd]; exact Nat.zero_le _, hk⟩
  show Ints w w.heap.size none p.dead.length p.dead
  rw [hd]
  exact Ints.nil_ _ _ _
theorem Rd.below {z : Pol} {a : PlA} {w w' : World} (h : Rd z a w) (hb : Below w.heap.size w w') : Rd z a w' :=
  ⟨⟨(Recs.below h.1.1 hb).more hb.size, (h.1.2.1.below hb).more hb.size, (h.1.2.2.1.below hb).more hb.size, (h.1.2.2.2.below hb).more hb.size⟩, (Recs.below h.2.1 hb).more hb.size, (h.2.2.1.below hb).more hb.size, h.2.2.2⟩
abbrev cfW : Cfg := (0, 1, 1, 0, 0, 9, 0, 0, 0)
def i0 : Idl := idl0 cfW
def i1 : Idl := ⟨cfW, [], [], [5], true, false, false⟩
def i2 : Idl := ⟨cfW, [], [3], [], false, false, false⟩
def i3 : Idl := ⟨cfW, [(3, 0)], [], [], false, false, false⟩
def p1 : Pnt := ⟨0, 0, 0, 0, 5, 0, false, 0, ⟨#[]⟩, [], [], [], false, false⟩
def q1 : Pnt := ⟨0, 0, 0, 0, 5, 0, false, 0, ⟨#[]⟩, [], [], [], true, false⟩
def p2 : Pnt := ⟨4, 0, 0, 0, 9, 3, false, 0, ⟨#[]⟩, [], [], [], false, false⟩
def q2 : Pnt := ⟨4, 0, 0, 0, 9, 3, false, 0, ⟨#[]⟩, [], [(5, 3, 0)], [], false, false⟩
def p3 : Pnt := ⟨1, 0, 0, 0, 6, 3, true, 0, ⟨#[]⟩, [], [], [], false, false⟩
def q3 : Pnt := ⟨1, 0, 0, 0, 6, 3, true, 0, ⟨#[]⟩, [], [(6, -1, 0)], [], false, false⟩
theorem ans1 : answerP i0 p1 = ⟨i1, q1⟩ := by kernel_rfl
theorem ans2 : answerP i1 p2 = ⟨i2, q2⟩ := by kernel_rfl
theorem ans3 : answerP i2 p3 = ⟨i3, q3⟩ := by kernel_rfl
theorem zRd (w : World) : Rd ⟨i0, p1⟩ pla0 w := ⟨⟨Recs.nil_ _ _ _, Ints.nil_ _ _ _, Ints.nil_ _ _ _, Ints.nil_ _ _ _⟩, Recs.nil_ _ _ _, Ints.nil_ _ _ _, ⟨⟨Nat.le_refl _, fun _ => rfl⟩, ⟨Nat.le_refl _, fun _ => rfl⟩, ⟨Nat.le_refl _, fun _ => rfl⟩⟩⟩
/-- A point of the example that is asked. -/
theorem ans_step (z : Pol) (p : Pnt) (z' : Pol) (a : PlA) (w : World) (h : Rd z a w) (hd : p.dead = []) (hk : -128 ≤ p.kind ∧ p.kind ≤ 127) (hf : z.i.free.length ≤ 100) (ho : z.i.out.length ≤ 100) (hl : z.i.line.length ≤ 100) (e : answerP z.i p = z') :
    Calls Try.prog 15 #[.agg (idCells z.i a), .agg (ptCells p pla0)] w fun en w' => AnsPost z' w en w' := by
  rw [← e]
  exact answer_any z.i p (mg a pla0) w (h.ansIn p hd hk hf ho hl)
/-- An ideal and a point stored behind a call. -/
theorem stored {w : World} {g : Nat} {i i' : Idl} {a a' : PlA} {p : Pnt} (hg : w.heap[g]? = some (.cells (idCells i a) 50 (0, 0))) (V : World)
    (hV : ((w.alloc (.cells zeroPt 38)).setRow g (idCells i' a')).setRow w.heap.size (ptCells p a') = V) :
    V.heap[g]? = some (.cells (idCells i' a') 50 (0, 0)) ∧ V.heap[w.heap.size]? = some (.cells (ptCells p a') 38 (0, 0)) ∧ (∀ b, b < w.heap.size → b ≠ g → V.heap[b]? = w.heap[b]?) ∧ V.heap.size = w.heap.size + 1 ∧ Below g w V := by
  subst hV
  have hlt : g < w.heap.size := (Array.getElem?_eq_some_iff.1 hg).1
  have hb := Below.new_ w (.cells zeroPt 38)
  have h1 := (hb.block g hlt).trans hg
  have h2 := heap_alloc_new w (.cells zeroPt 38)
  refine ⟨(setRow_other _ _ _ _ (by omega)).trans (setRow_heap _ _ _ _ _ _ h1), setRow_heap _ _ _ _ _ _ ((setRow_other _ _ _ _ (by omega)).trans h2), fun b hb2 hne => (setRow_other _ _ _ _ (by omega)).trans ((setRow_other _ _ _ _ hne).trans (hb.block b hb2)), by simp, ?_⟩
  exact ⟨rfl, rfl, rfl, by simp, fun b hb2 => (setRow_other _ _ _ _ (by omega)).trans ((setRow_other _ _ _ _ (by omega)).trans (hb.block b (by omega)))⟩
/-- A list is not in a row that does not hold its first cell. -/
theorem Sl.off {w V : World} {k n g : Nat} {A : Option Addr} {xs : List Value} {v : Value} {cs : Array Value} {t : TypeId} {fr : Nat × Nat} (h : Sl w w.heap.size k A n xs) (hx : xs[0]? = some v) (hg : w.heap[g]? = some (.cells cs t fr))
    (hv : v ∉ cs) (hsame : ∀ b, b < w.heap.size → b ≠ g → V.heap[b]? = w.heap[b]?) (hs : w.heap.size ≤ V.heap.size) : Sl V V.heap.size k A n xs := by
  refine ⟨h.1, fun h0 h1 => ?_⟩
  obtain ⟨b, off, rfl, hb, hc⟩ := h.2 h0 h1
  have hne : b ≠ g := by
    rintro rfl
    have := hc 0 v hx
    rw [cell_of_row _ b _ _ t fr hg] at this
    exact hv (Array.mem_of_getElem? this)
  refine ⟨b, off, rfl, Nat.lt_of_lt_of_le hb hs, fun j u hu => ?_⟩
  rw [← hc j u hu]
  simp only [World.cell?, hsame b hb hne]
theorem wk_i0 (n : Int) (h : n ∉ [0, 1, 9]) (a : PlA) : Value.int .i64 n ∉ idCells i0 a := by
  simp at h; simp [idCells, i0, idl0]; omega
theorem wk_i1 (n : Int) (h : n ∉ [0, 1, 9]) (a : PlA) : Value.int .i64 n ∉ idCells i1 a := by
  simp at h; simp [idCells, i1]; omega
theorem wk_i2 (n : Int) (h : n ∉ [0, 1, 9]) (a : PlA) : Value.int .i64 n ∉ idCells i2 a := by
  simp at h; simp [idCells, i2]; omega
set_option maxRecDepth 100000 in
set_option maxHeartbeats 16000000 in
theorem wakes_any (w : World) : Calls Try.prog 7 #[] w fun e w' => e = .returned (.bool true) ∧ Below w.heap.size w w' := by
  go_enter Try.func7, Try.ntmps7
  go_wp2_with (first | (refine wpList_buildAs rfl 23 _ rfl (cfCells cfW) (by kernel_rfl) ?_))
  refine (new_any cfW w).mono ?_
  rintro e W1 ⟨rfl, hB1⟩
  go_upto_region 2 with (first | (refine wpList_store_row rfl 50 _ _ rfl W1.heap.size (idCells (idl0 cfW) pla0) rfl rfl 50 _ (heap_alloc_new _ _) (by kernel_rfl) (by kernel_rfl) (by kernel_rfl) ?_; rw [World.setRow_alloc_new]))
  change Code.wp _ _ _ _ (W1.alloc (.cells (idCells i0 pla0) 50))
  have r1 := heap_alloc_new W1 (.cells (idCells i0 pla0) 50)
  have hB2 := hB1.trans ((Below.new_ W1 (.cells (idCells i0 pla0) 50)).mono hB1.size)
  obtain ⟨g, hg⟩ : ∃ g, W1.heap.size = g := ⟨_, rfl⟩
  obtain ⟨V1, hV1⟩ : ∃ V, W1.alloc (.cells (idCells i0 pla0) 50) = V := ⟨_, rfl⟩
  have hgw : w.heap.size ≤ g := by rw [← hg]; exact hB1.size
  rw [hV1] at r1 hB2 ⊢
  rw [hg] at r1 ⊢
  clear hV1 hg hB1
  go_wp2_with (first | (refine wpList_load_row rfl 50 _ rfl g rfl 50 _ _ _ r1 Try.underlying50 rfl (by kernel_rfl) ?_) | (refine wpList_buildAs rfl 38 _ rfl (ptCells p1 pla0) (by kernel_rfl) ?_))
  refine (ans_step ⟨i0, p1⟩ p1 _ pla0 V1 (zRd V1) rfl (by decide) (by decide) (by decide) (by decide) ans1).mono ?_
  rintro e W2 ⟨a1, rfl, hrd, hB3⟩
  have r2 := (hB3.block g (Array.getElem?_eq_some_iff.1 r1).1).trans r1
  go_upto_region 3 with (first | (refine wpList_store_row rfl 50 _ _ rfl g (idCells i1 a1) rfl rfl 50 _ (((Below.new_ W2 _).block g (Array.getElem?_eq_some_iff.1 r2).1).trans r2) (by kernel_rfl) rfl (by kernel_rfl) ?_) | (refine wpList_store_row rfl 38 _ _ rfl W2.heap.size (ptCells q1 a1) rfl rfl 38 _ ((setRow_other _ _ _ _ (Nat.ne_of_gt (Array.getElem?_eq_some_iff.1 r2).1)).trans (heap_alloc_new _ _)) (by kernel_rfl) (by kernel_rfl) (by kernel_rfl) ?_))
  change Code.wp _ _ _ _ (((W2.alloc (.cells zeroPt 38)).setRow g (idCells i1 a1)).setRow W2.heap.size (ptCells q1 a1))
  obtain ⟨V2, hV2⟩ : ∃ V, ((W2.alloc (.cells zeroPt 38)).setRow g (idCells i1 a1)).setRow W2.heap.size (ptCells q1 a1) = V := ⟨_, rfl⟩
  obtain ⟨R2, P2, S2, Z2, D2⟩ := stored r2 V2 hV2
  rw [hV2]
  clear hV2
  have hR2 : Rd ⟨i1, q1⟩ a1 V2 := ⟨⟨Recs.nil_ _ _ _, Ints.nil_ _ _ _, Sl.off hrd.1.2.2.1 rfl r2 (wk_i0 5 (by decide) _) S2 (by omega), Ints.nil_ _ _ _⟩, Recs.nil_ _ _ _, Ints.nil_ _ _ _, hrd.2.2.2⟩
  have gl1 : g < V1.heap.size := (Array.getElem?_eq_some_iff.1 r1).1
  have gl2 := hB3.size
  obtain ⟨g2, hg2⟩ : ∃ x, W2.heap.size = x := ⟨_, rfl⟩
  rw [hg2] at P2 Z2 S2 gl2 ⊢
  have hC2 : Below w.heap.size w V2 := (hB2.trans (hB3.mono (by omega))).trans (D2.mono hgw)
  go_wp2_with (first | (refine wpList_load_row rfl 50 _ rfl g rfl 50 _ _ _ R2 Try.underlying50 rfl (by kernel_rfl) ?_) | (refine wpList_buildAs rfl 38 _ rfl (ptCells p2 pla0) (by kernel_rfl) ?_))
  refine (ans_step ⟨i1, q1⟩ p2 _ a1 V2 hR2 rfl (by decide) (by decide) (by decide) (by decide) ans2).mono ?_
  rintro e W3 ⟨a2, rfl, hrd2, hB5⟩
  have r3 := (hB5.block g (by omega)).trans R2
  go_upto_region 4 with (first | (refine wpList_store_row rfl 50 _ _ rfl g (idCells i2 a2) rfl rfl 50 _ (((Below.new_ W3 _).block g (Array.getElem?_eq_some_iff.1 r3).1).trans r3) (by kernel_rfl) rfl (by kernel_rfl) ?_) | (refine wpList_store_row rfl 38 _ _ rfl W3.heap.size (ptCells q2 a2) rfl rfl 38 _ ((setRow_other _ _ _ _ (Nat.ne_of_gt (Array.getElem?_eq_some_iff.1 r3).1)).trans (heap_alloc_new _ _)) (by kernel_rfl) (by kernel_rfl) (by kernel_rfl) ?_))
  change Code.wp _ _ _ _ (((W3.alloc (.cells zeroPt 38)).setRow g (idCells i2 a2)).setRow W3.heap.size (ptCells q2 a2))
  obtain ⟨V3, hV3⟩ : ∃ V, ((W3.alloc (.cells zeroPt 38)).setRow g (idCells i2 a2)).setRow W3.heap.size (ptCells q2 a2) = V := ⟨_, rfl⟩
  obtain ⟨R3, P3, S3, Z3, D3⟩ := stored r3 V3 hV3
  rw [hV3]
  clear hV3
  have hR3 : Rd ⟨i2, q2⟩ a2 V3 := ⟨⟨Recs.nil_ _ _ _, Sl.off hrd2.1.2.1 rfl r3 (wk_i1 3 (by decide) _) S3 (by omega), Ints.nil_ _ _ _, Ints.nil_ _ _ _⟩, ⟨rfl, Sl.off hrd2.2.1.2 rfl r3 (wk_i1 5 (by decide) _) S3 (by omega)⟩, Ints.nil_ _ _ _, hrd2.2.2.2⟩
  have gl3 := hB5.size
  have P23 : V3.heap[g2]? = some (.cells (ptCells q1 a1) 38 (0, 0)) := (S3 g2 (by omega) (by omega)).trans ((hB5.block g2 (by omega)).trans P2)
  obtain ⟨g3, hg3⟩ : ∃ x, W3.heap.size = x := ⟨_, rfl⟩
  rw [hg3] at P3 Z3 S3 gl3 ⊢
  have hC3 : Below w.heap.size w V3 := (hC2.trans (hB5.mono (by omega))).trans (D3.mono hgw)
  go_wp2_with (first | (refine wpList_load_row rfl 50 _ rfl g rfl 50 _ _ _ R3 Try.underlying50 rfl (by kernel_rfl) ?_) | (refine wpList_buildAs rfl 38 _ rfl (ptCells p3 pla0) (by kernel_rfl) ?_))
  refine (ans_step ⟨i2, q2⟩ p3 _ a2 V3 hR3 rfl (by decide) (by decide) (by decide) (by decide) ans3).mono ?_
  rintro e W4 ⟨a3, rfl, hrd3, hB6⟩
  have r4 := (hB6.block g (by omega)).trans R3
  go_upto_region 5 with (first | (refine wpList_store_row rfl 50 _ _ rfl g (idCells i3 a3) rfl rfl 50 _ (((Below.new_ W4 _).block g (Array.getElem?_eq_some_iff.1 r4).1).trans r4) (by kernel_rfl) rfl (by kernel_rfl) ?_) | (refine wpList_store_row rfl 38 _ _ rfl W4.heap.size (ptCells q3 a3) rfl rfl 38 _ ((setRow_other _ _ _ _ (Nat.ne_of_gt (Array.getElem?_eq_some_iff.1 r4).1)).trans (heap_alloc_new _ _)) (by kernel_rfl) (by kernel_rfl) (by kernel_rfl) ?_))
  change Code.wp _ _ _ _ (((W4.alloc (.cells zeroPt 38)).setRow g (idCells i3 a3)).setRow W4.heap.size (ptCells q3 a3))
  obtain ⟨V4, hV4⟩ : ∃ V, ((W4.alloc (.cells zeroPt 38)).setRow g (idCells i3 a3)).setRow W4.heap.size (ptCells q3 a3) = V := ⟨_, rfl⟩
  obtain ⟨R4, P4, S4, Z4, D4⟩ := stored r4 V4 hV4
  rw [hV4]
  clear hV4
  have gl4 := hB6.size
  have P24 : V4.heap[g2]? = some (.cells (ptCells q1 a1) 38 (0, 0)) := (S4 g2 (by omega) (by omega)).trans ((hB6.block g2 (by omega)).trans P23)
  have P34 : V4.heap[g3]? = some (.cells (ptCells q2 a2) 38 (0, 0)) := (S4 g3 (by omega) (by omega)).trans ((hB6.block g3 (by omega)).trans P3)
  have f1 : Res V4 V4.heap.size a3.fA 1 [(3, 0)] := ⟨rfl, Sl.off hrd3.1.1.2 rfl r4 (wk_i2 3 (by decide) _) S4 (by omega)⟩
  have f2 : Rps V4 V4.heap.size a3.rA 1 [(6, -1, 0)] := ⟨rfl, Sl.off hrd3.2.1.2 rfl r4 (wk_i2 6 (by decide) _) S4 (by omega)⟩
  have f3 : Rps V4 V4.heap.size a2.rA 1 [(5, 3, 0)] := ⟨rfl, Sl.off (Recs.more (Recs.below hR3.2.1 hB6) hB6.size).2 rfl r4 (wk_i2 5 (by decide) _) S4 (by omega)⟩
  obtain ⟨g4, hg4⟩ : ∃ x, W4.heap.size = x := ⟨_, rfl⟩
  rw [hg4] at P4 ⊢
  have hC4 : Below w.heap.size w V4 := (hC3.trans (hB6.mono (by omega))).trans (D4.mono hgw)
  obtain ⟨b1, o1, x1, e1, _, hx1, c0, _⟩ := Res.cells f1 (i := 0) (by omega)
  obtain ⟨b2, o2, x2, e2, _, hx2, c1, c2, c3⟩ := Rps.cells f2 (i := 0) (by omega)
  obtain ⟨b3, o3, x3, e3, _, hx3, c4, c5, c6⟩ := Rps.cells f3 (i := 0) (by omega)
  have hx1 := hx1.out
  have hx2 := hx2.out
  have hx3 := hx3.out
  injection hx1 with hx1
  injection hx2 with hx2
  injection hx3 with hx3
  subst hx1 hx2 hx3
  simp only [Nat.zero_mul, Nat.add_zero] at c0 c1 c2 c3 c4 c5 c6
  have k0 : V4.cell? ⟨g, 0, none⟩ = some (.int .i64 0) := by rw [cell_of_row _ _ 0 _ _ _ R4]; rfl
  have k1 : V4.cell? ⟨g, 1, none⟩ = some (.int .i64 1) := by rw [cell_of_row _ _ 1 _ _ _ R4]; rfl
  have k2 : V4.cell? ⟨g, 2, none⟩ = some (.int .i64 1) := by rw [cell_of_row _ _ 2 _ _ _ R4]; rfl
  have k3 : V4.cell? ⟨g, 3, none⟩ = some (.int .i64 0) := by rw [cell_of_row _ _ 3 _ _ _ R4]; rfl
  have k4 : V4.cell? ⟨g, 4, none⟩ = some (.int .i64 0) := by rw [cell_of_row _ _ 4 _ _ _ R4]; rfl
  have k5 : V4.cell? ⟨g, 5, none⟩ = some (.int .i64 9) := by rw [cell_of_row _ _ 5 _ _ _ R4]; rfl
  have k6 : V4.cell? ⟨g, 6, none⟩ = some (.int .i64 0) := by rw [cell_of_row _ _ 6 _ _ _ R4]; rfl
  have k7 : V4.cell? ⟨g, 7, none⟩ = some (.int .i64 0) := by rw [cell_of_row _ _ 7 _ _ _ R4]; rfl
  have k8 : V4.cell? ⟨g, 8, none⟩ = some (.int .i64 0) := by rw [cell_of_row _ _ 8 _ _ _ R4]; rfl
  have k9 : V4.cell? ⟨g, 9, none⟩ = some (.slice (some ⟨b1, o1, none⟩) 1 a3.fc) := by rw [cell_of_row _ _ 9 _ _ _ R4, ← e1]; rfl
  have k10 : V4.cell? ⟨g, 10, none⟩ = some (.slice a3.oA 0 a3.oc) := by rw [cell_of_row _ _ 10 _ _ _ R4]; rfl
  have l10 : V4.cell? ⟨g2, 10, none⟩ = some (.slice a1.rA 0 a1.rc) := by rw [cell_of_row _ _ 10 _ _ _ P24]; rfl
  have l12 : V4.cell? ⟨g2, 12, none⟩ = some (.bool true) := by rw [cell_of_row _ _ 12 _ _ _ P24]; rfl
  have m10 : V4.cell? ⟨g3, 10, none⟩ = some (.slice (some ⟨b3, o3, none⟩) 1 a2.rc) := by rw [cell_of_row _ _ 10 _ _ _ P34, ← e3]; rfl
  have m12 : V4.cell? ⟨g3, 12, none⟩ = some (.bool false) := by rw [cell_of_row _ _ 12 _ _ _ P34]; rfl
  have m13 : V4.cell? ⟨g3, 13, none⟩ = some (.bool false) := by rw [cell_of_row _ _ 13 _ _ _ P34]; rfl
  have n10 : V4.cell? ⟨g4, 10, none⟩ = some (.slice (some ⟨b2, o2, none⟩) 1 a3.rc) := by rw [cell_of_row _ _ 10 _ _ _ P4, ← e2]; rfl
  have hE1 : ∀ wx, (Op.equalIn 10000 65 (.agg #[.int .i64 5, .int .i64 3, .int .i64 0]) (.agg #[.int .i64 5, .int .i64 3, .int .i64 0])).run Try.prog wx = .ok true wx := fun wx => eqRp (5, 3, 0) (5, 3, 0) wx
  have hE2 : ∀ wx, (Op.equalIn 10000 65 (.agg #[.int .i64 6, .int .i64 (-1), .int .i64 0]) (.agg #[.int .i64 6, .int .i64 (-1), .int .i64 0])).run Try.prog wx = .ok true wx := fun wx => eqRp (6, -1, 0) (6, -1, 0) wx
  clear R2 R3 r1 r2 r3 r4 P2 P23 P3 S2 S3 S4 hR2 hR3 hrd hrd2 hrd3 hB2 hB3 hB5 hB6 D2 D3 D4 f1 f2 f3 e1 e2 e3
  go_wp2_with fail
  refine (judge0_any cfW 0 V4).mono ?_
  rintro e W5 ⟨rfl, hB7⟩
  have hC5 := hC4.trans (hB7.mono hC4.size)
  go_wp2_with fail
  go_ret
  exact ⟨rfl, hC5⟩
end Go.Proofs.Ythjanhfjehccoaa
