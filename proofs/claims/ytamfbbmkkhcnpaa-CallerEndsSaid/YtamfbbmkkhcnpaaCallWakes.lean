/-
  The document's example of a Get whose token is cut behind its Ask is told right. Conditions: none.
-/
import Derived.Test.YtamfbbmkkhcnpaaCall11
namespace Go.Proofs.Ytamfbbmkkhcnpaa
open Go.RowKit

/-- A caller lies at block g. -/
def Cb (w : World) (g : Nat) (x : Ca) : Prop := w.heap[g]? = some (.cells #[.int .i64 x.id, .int .i64 x.done, .int .i8 x.op, .int .i64 x.owner, .int .i64 x.sock, .slice x.A x.n x.c, .int .i8 x.st, .int .i64 x.i, .int .i64 x.rt, .int .i64 x.rs, .int .i64 x.re] 30 (0, 0))
theorem Cb.lt {w : World} {g : Nat} {x : Ca} (h : Cb w g x) : g < w.heap.size := (Array.getElem?_eq_some_iff.1 h).1
theorem Cb.below {w w' : World} {g B : Nat} {x : Ca} (h : Cb w g x) (hb : Below B w w') (hg : g < B) : Cb w' g x := (hb.block g hg).trans h
theorem Cb.new_ (w : World) (x : Ca) : Cb (w.alloc (.cells #[.int .i64 x.id, .int .i64 x.done, .int .i8 x.op, .int .i64 x.owner, .int .i64 x.sock, .slice x.A x.n x.c, .int .i8 x.st, .int .i64 x.i, .int .i64 x.rt, .int .i64 x.rs, .int .i64 x.re] 30)) w.heap.size x := heap_alloc_new w _
theorem Cb.put {w : World} {g : Nat} {x : Ca} (y : Ca) (h : Cb w g x) : Cb (caPut w g y) g y := caPut_at y h
theorem ofs_ne {w : World} {B g : Nat} {A : Option Addr} {n : Nat} {l : List OfR} {x : Ca} (h : Ofs w B A n l) (hg : Cb w g x) : ∀ b off, A = some ⟨b, off, none⟩ → 0 < n → b ≠ g := by
  rintro b off rfl h0 rfl
  obtain ⟨b', off', e1, _, hc⟩ := h.2.2 h0 (by omega)
  injection e1 with e1
  injection e1 with e1 e2
  subst e1 e2
  have hl : 0 < l.length := by rw [h.1]; exact h0
  obtain ⟨d, l', rfl⟩ : ∃ d l', l = d :: l' := by cases l with | nil => simp at hl | cons d l' => exact ⟨d, l', rfl⟩
  have h1 := hc 6 (.string ⟨#[]⟩) rfl
  rw [cell_of_row w b (off + 6) _ _ (0, 0) hg] at h1
  match off, h1 with
  | 0, h => simp at h
  | 1, h => simp at h
  | 2, h => simp at h
  | 3, h => simp at h
  | 4, h => simp at h
  | (k + 5), h => simp at h
theorem ofs_put {w : World} {B g : Nat} {A : Option Addr} {n : Nat} {l : List OfR} {x y : Ca} (h : Ofs w B A n l) (hg : Cb w g x) : Ofs (caPut w g y) B A n l := by
  refine ⟨h.1, h.2.1, fun h0 h1 => ?_⟩
  obtain ⟨b, off, e1, hb, hc⟩ := h.2.2 h0 h1
  have hne := ofs_ne h hg b off e1 h0
  refine ⟨b, off, e1, hb, fun j u hu => ?_⟩
  rw [← hc j u hu]
  have : (caPut w g y).heap[b]? = w.heap[b]? := by unfold caPut; repeat rw [Below.heap_setCell _ _ _ _ hne]
  simp [World.cell?, this]
theorem caPut_size (w : World) (g : Nat) (y : Ca) : (caPut w g y).heap.size = w.heap.size := by simp [caPut]
theorem Ofs.cells {w : World} {B : Nat} {A : Option Addr} {n : Nat} {xs : List OfR} (h : Ofs w B A n xs) {i : Nat} (hi : i < n) :
    ∃ b off x, A = some ⟨b, off, none⟩ ∧ b < B ∧ Hid (xs[i]? = some x) ∧ w.cell? ⟨b, off + i * 9, none⟩ = some (.int .i8 x.1) ∧ w.cell? ⟨b, off + i * 9 + 1, none⟩ = some (.int .i64 x.2.1) ∧ w.cell? ⟨b, off + i * 9 + 2, none⟩ = some (.int .i8 x.2.2.1) ∧ w.cell? ⟨b, off + i * 9 + 3, none⟩ = some (.int .i64 x.2.2.2.1) ∧ w.cell? ⟨b, off + i * 9 + 4, none⟩ = some (.int .i64 x.2.2.2.2.1) ∧ w.cell? ⟨b, off + i * 9 + 5, none⟩ = some (.int .i64 x.2.2.2.2.2) ∧ w.cell? ⟨b, off + i * 9 + 6, none⟩ = some (.string ⟨#[]⟩) ∧ w.cell? ⟨b, off + i * 9 + 7, none⟩ = some (.int .i64 0) ∧ w.cell? ⟨b, off + i * 9 + 8, none⟩ = some (.int .i64 0) := by
  obtain ⟨b, off, x, e, hb, hx, hc⟩ := Recs.at_ encOf_len (by omega) h hi
  exact ⟨b, off, x, e, hb, hx, hc 0 _ rfl, (by have := hc 1 _ rfl; rwa [← Nat.add_assoc] at this), (by have := hc 2 _ rfl; rwa [← Nat.add_assoc] at this), (by have := hc 3 _ rfl; rwa [← Nat.add_assoc] at this), (by have := hc 4 _ rfl; rwa [← Nat.add_assoc] at this), (by have := hc 5 _ rfl; rwa [← Nat.add_assoc] at this), (by have := hc 6 _ rfl; rwa [← Nat.add_assoc] at this), (by have := hc 7 _ rfl; rwa [← Nat.add_assoc] at this), (by have := hc 8 _ rfl; rwa [← Nat.add_assoc] at this)⟩
/-- A caller without owners. -/
theorem nilI {x : Ca} (h : x.n = 0) (w : World) (B : Nat) : Ints w B x.A x.n [] := by rw [h]; exact Ints.nil_ _ _ _
theorem cb_frozen {w : World} {g : Nat} {x : Ca} (h : Cb w g x) : w.frozen? ⟨g, 0, none⟩ = false ∧ w.frozen? ⟨g, 1, none⟩ = false ∧ w.frozen? ⟨g, 2, none⟩ = false ∧ w.frozen? ⟨g, 3, none⟩ = false ∧ w.frozen? ⟨g, 4, none⟩ = false ∧ w.frozen? ⟨g, 5, none⟩ = false ∧ w.frozen? ⟨g, 6, none⟩ = false ∧ w.frozen? ⟨g, 7, none⟩ = false ∧ w.frozen? ⟨g, 8, none⟩ = false ∧ w.frozen? ⟨g, 9, none⟩ = false ∧ w.frozen? ⟨g, 10, none⟩ = false := ca_free h
theorem eqRp (a b c a' b' c' : Int) (w : World) : (Op.equalIn 10000 28 (.agg #[.int .i64 a, .int .i64 b, .int .i64 c]) (.agg #[.int .i64 a', .int .i64 b', .int .i64 c'])).run Try.prog w = .ok (decide (a = a' ∧ b = b' ∧ c = c')) w := by
  have u3 := Try.underlying3
  have u4 := Try.underlying26
  have hS : Try.prog.underlying 28 = some (.struct (Try.prog.fieldsOf 28)) := by kernel_rfl
  have hp : Try.prog.stoodInHeld 28 = false := by kernel_rfl
  rw [show (10000 : Nat) = 9999 + 1 from rfl, run_equalIn_agg w 9999 28 _ _ hS hp]
  simp only [Program.fieldsOf, Try.underlying28]
  go_simp
  by_cases h1 : a = a' <;> by_cases h2 : b = b' <;> by_cases h3 : c = c' <;> simp [h1, h2, h3]
def yk (st rt rs re : Int) : Ca := ⟨4, 1, 0, 2, 0, none, 0, 0, st, 0, rt, rs, re⟩
theorem wk1 : takeM (yk 0 4 (-1) 0) [] 0 0 0 = (yk 1 4 (-1) 0, false) := by simp [takeM, casesL, goesM, tokL, yk]
theorem wk2 : takeM (yk 1 4 (-1) 0) [] 1 0 0 = (yk 2 4 (-1) 0, false) := by simp [takeM, casesL, goesM, tokL, yk]
theorem wk3 : takeM (yk 2 4 (-1) 0) [] 0 0 0 = (yk 3 4 (-1) 0, false) := by simp [takeM, casesL, goesM, tokL, yk]
theorem wk4 : takeM (yk 3 4 (-1) 0) [] 0 9 0 = (yk 4 4 9 0, false) := by simp [takeM, casesL, goesM, tokL, toldM, endC, yk]
theorem wo0 : casesL (yk 0 4 (-1) 0) [] = [(0, 10, 1, 4, 0, 0), (1, 1, 0, 0, 0, 0), (1, 21, 0, 0, 0, 0)] := by simp [casesL, tokL, yk, inboxD, wishK, ofD, wrap64]
theorem wo2 : casesL (yk 2 4 (-1) 0) [] = [(0, 10, 3, 4, 0, 0), (1, 1, 0, 0, 0, 0)] := by simp [casesL, tokL, yk, inboxD, wishK, ofD, wrap64]
/-- A caller of no owners that is a Get. -/
def Yk (y : Ca) (st rt rs re : Int) : Prop := y = yk st rt rs re
theorem Yk.n {y : Ca} {a b c d : Int} (h : Yk y a b c d) : y.n = 0 := by rw [h]; rfl
theorem Yk.op {y : Ca} {a b c d : Int} (h : Yk y a b c d) : ¬ y.op = 4 := by rw [h]; simp [yk]
/-- One step of the example: the caller y at g, behind a Take. -/
theorem wk_put {w0 w w' : World} {g : Nat} {x y : Ca} (hc : Cb w g x) (hb : Below w0.heap.size w0 w) (hbx : Below w.heap.size w w') (hg : w0.heap.size ≤ g) : Cb (caPut w' g y) g y ∧ Below w0.heap.size w0 (caPut w' g y) := ⟨(hc.below hbx hc.lt).put y, caPut_below y (hb.trans (hbx.mono hb.size)) hg⟩
theorem ofs_step {w w' : World} {g n : Nat} {A : Option Addr} {l : List OfR} {x y : Ca} (h : Ofs w w.heap.size A n l) (hc : Cb w g x) (hbx : Below w.heap.size w w') : Ofs (caPut w' g y) (caPut w' g y).heap.size A n l := by
  rw [caPut_size]
  exact ofs_put ((h.below hbx).more hbx.size) (hc.below hbx hc.lt)
set_option maxRecDepth 100000 in
set_option maxHeartbeats 8000000 in
theorem wakes_any (w : World) : Calls Try.prog 6 #[] w fun e w' => e = .returned (.bool true) ∧ Below w.heap.size w w' := by
  go_enter Try.func6, Try.ntmps6
  go_wp2_with fail
  refine (Get_any _ _ _ _).mono ?_
  rintro e w1 ⟨rfl, hb1⟩
  generalize hy0 : beginC 4 1 0 2 = y0
  have HY : Hid (Yk y0 0 4 (-1) 0) := hy0.symm
  clear hy0
  have hl0 := hb1.size
  have HG := Lib.hid hl0
  clear hl0
  go_upto_region 2 with fail
  have hc := Cb.new_ w1 y0
  have hb : Below w.heap.size w _ := hb1.alloc hb1.size (.cells #[.int .i64 y0.id, .int .i64 y0.done, .int .i8 y0.op, .int .i64 y0.owner, .int .i64 y0.sock, .slice y0.A y0.n y0.c, .int .i8 y0.st, .int .i64 y0.i, .int .i64 y0.rt, .int .i64 y0.rs, .int .i64 y0.re] 30)
  clear hb1
  generalize hg : w1.heap.size = g at HG hc ⊢
  clear hg
  generalize (w1.alloc (.cells #[.int .i64 y0.id, .int .i64 y0.done, .int .i8 y0.op, .int .i64 y0.owner, .int .i64 y0.sock, .slice y0.A y0.n y0.c, .int .i8 y0.st, .int .i64 y0.i, .int .i64 y0.rt, .int .i64 y0.rs, .int .i64 y0.re] 30)) = W at hc hb ⊢
  obtain ⟨c0, c1, c2, c3, c4, c5, c6, c7, c8, c9, c10⟩ := ca_cells hc
  obtain ⟨f0, f1, f2, f3, f4, f5, f6, f7, f8, f9, f10⟩ := ca_free hc
  go_wp2_with fail
  refine (Offers_any y0 [] _ (nilI HY.out.n _ _) (by have := HY.out.n; omega)).mono ?_
  rintro e w2 ⟨Ao, no, co, rfl, ho, hbx⟩
  rw [HY.out, wo0] at ho
  have hno := ho.len
  simp at hno
  subst hno
  replace hc := hc.below hbx hc.lt
  replace hb := hb.trans (hbx.mono hb.size)
  clear hbx
  clear c0 c1 c2 c3 c4 c5 c6 c7 c8 c9 c10 f0 f1 f2 f3 f4 f5 f6 f7 f8 f9 f10
  obtain ⟨c0, c1, c2, c3, c4, c5, c6, c7, c8, c9, c10⟩ := ca_cells hc
  obtain ⟨f0, f1, f2, f3, f4, f5, f6, f7, f8, f9, f10⟩ := ca_free hc
  go_wp2_with fail
  refine (Take_any y0 [] 0 0 0 0 0 0 ⟨#[]⟩ _ (nilI HY.out.n _ _) (by have := HY.out.n; omega) (fun h => absurd h HY.out.op)).mono ?_
  rintro e wt ⟨D, dn, dc, rfl, hd, hbx⟩
  replace HY : Hid (takeM y0 [] 0 0 0 = (yk 1 4 (-1) 0, false)) := by show _ = _; rw [HY.out]; exact wk1
  generalize takeM y0 [] 0 0 0 = Y at HY hd ⊢
  obtain ⟨y1, dl⟩ := Y
  have HD : Hid (dl = false) := congrArg Prod.snd HY.out
  replace HY : Hid (Yk y1 1 4 (-1) 0) := congrArg Prod.fst HY.out
  rw [HD.out] at hd
  dsimp only at hd ⊢
  have hdn := hd.len
  simp at hdn
  subst hdn
  have hcx := hc.below hbx hc.lt
  clear hd HD
  clear c0 c1 c2 c3 c4 c5 c6 c7 c8 c9 c10 f0 f1 f2 f3 f4 f5 f6 f7 f8 f9 f10
  obtain ⟨c0, c1, c2, c3, c4, c5, c6, c7, c8, c9, c10⟩ := ca_cells hcx
  obtain ⟨f0, f1, f2, f3, f4, f5, f6, f7, f8, f9, f10⟩ := ca_free hcx
  go_upto_region 4 with fail
  have ho' : Ofs (caPut wt g y1) _ _ _ _ := ofs_step ho hc hbx
  obtain ⟨hc2, hb2⟩ := wk_put (y := y1) hc hb hbx HG.out
  obtain ⟨W2, hW2⟩ : ∃ W2, W2 = caPut wt g y1 := ⟨_, rfl⟩
  rw [← hW2] at hc2 hb2 ho'
  unfold caPut at hW2
  rw [← hW2]
  clear c0 c1 c2 c3 c4 c5 c6 c7 c8 c9 c10 f0 f1 f2 f3 f4 f5 f6 f7 f8 f9 f10
  clear hc hb hbx hcx hW2 ho
  have hc := hc2
  have hb := hb2
  have ho := ho'
  clear hc2 hb2 ho'
  obtain ⟨c0, c1, c2, c3, c4, c5, c6, c7, c8, c9, c10⟩ := ca_cells hc
  obtain ⟨f0, f1, f2, f3, f4, f5, f6, f7, f8, f9, f10⟩ := ca_free hc
  go_wp2_with fail
  refine (Take_any y1 [] 1 0 0 0 0 0 ⟨#[]⟩ _ (nilI HY.out.n _ _) (by have := HY.out.n; omega) (fun h => absurd h HY.out.op)).mono ?_
  rintro e wt ⟨D, dn, dc, rfl, hd, hbx⟩
  replace HY : Hid (takeM y1 [] 1 0 0 = (yk 2 4 (-1) 0, false)) := by show _ = _; rw [HY.out]; exact wk2
  generalize takeM y1 [] 1 0 0 = Y at HY hd ⊢
  obtain ⟨y2, dl⟩ := Y
  have HD : Hid (dl = false) := congrArg Prod.snd HY.out
  replace HY : Hid (Yk y2 2 4 (-1) 0) := congrArg Prod.fst HY.out
  rw [HD.out] at hd
  dsimp only at hd ⊢
  have hdn := hd.len
  simp at hdn
  subst hdn
  have hcx := hc.below hbx hc.lt
  clear hd HD
  clear c0 c1 c2 c3 c4 c5 c6 c7 c8 c9 c10 f0 f1 f2 f3 f4 f5 f6 f7 f8 f9 f10
  obtain ⟨c0, c1, c2, c3, c4, c5, c6, c7, c8, c9, c10⟩ := ca_cells hcx
  obtain ⟨f0, f1, f2, f3, f4, f5, f6, f7, f8, f9, f10⟩ := ca_free hcx
  go_upto_region 5 with fail
  have ho' : Ofs (caPut wt g y2) _ _ _ _ := ofs_step ho hc hbx
  obtain ⟨hc2, hb2⟩ := wk_put (y := y2) hc hb hbx HG.out
  obtain ⟨W2, hW2⟩ : ∃ W2, W2 = caPut wt g y2 := ⟨_, rfl⟩
  rw [← hW2] at hc2 hb2 ho'
  unfold caPut at hW2
  rw [← hW2]
  clear c0 c1 c2 c3 c4 c5 c6 c7 c8 c9 c10 f0 f1 f2 f3 f4 f5 f6 f7 f8 f9 f10
  clear hc hb hbx hcx hW2 ho
  have hc := hc2
  have hb := hb2
  have ho := ho'
  clear hc2 hb2 ho'
  obtain ⟨c0, c1, c2, c3, c4, c5, c6, c7, c8, c9, c10⟩ := ca_cells hc
  obtain ⟨f0, f1, f2, f3, f4, f5, f6, f7, f8, f9, f10⟩ := ca_free hc
  go_wp2_with fail
  refine (Offers_any y2 [] _ (nilI HY.out.n _ _) (by have := HY.out.n; omega)).mono ?_
  rintro e w4 ⟨Ap, np, cp, rfl, hp, hbx⟩
  rw [HY.out, wo2] at hp
  have hnp := hp.len
  simp at hnp
  subst hnp
  replace ho := (ho.below hbx).more hbx.size
  replace hc := hc.below hbx hc.lt
  replace hb := hb.trans (hbx.mono hb.size)
  clear hbx
  clear c0 c1 c2 c3 c4 c5 c6 c7 c8 c9 c10 f0 f1 f2 f3 f4 f5 f6 f7 f8 f9 f10
  obtain ⟨bo, offo, xo, rfl, hbo, hxo, i0, i1, i2, i3, i4, i5, i6, i7, i8⟩ := Ofs.cells ho (i := 0) (by omega)
  obtain ⟨bp, offp, xp, rfl, hbp, hxp, j0, j1, j2, j3, j4, j5, j6, j7, j8⟩ := Ofs.cells hp (i := 0) (by omega)
  have exo : xo = (0, 10, 1, 4, 0, 0) := by have := hxo.out; simpa using this.symm
  have exp : xp = (0, 10, 3, 4, 0, 0) := by have := hxp.out; simpa using this.symm
  clear hxo hxp
  subst exo exp
  simp only [Nat.zero_mul, Nat.add_zero] at i0 i1 i2 i3 i4 i5 i6 i7 i8 j0 j1 j2 j3 j4 j5 j6 j7 j8
  go_upto_region 6 with fail
  go_quiet ((go_at_call 10; exact quiet_eq (rOf5_any 2 0 _ (by omega) (by omega) (by omega) (by omega))))
  clear i0 i1 i2 i3 i4 i5 i6 i7 i8 j0 j1 j2 j3 j4 j5 j6 j7 j8 ho hp
  replace hb := below_drewN hb nq
  replace hc : Cb (w4.drewN nq) g y2 := hc
  generalize w4.drewN nq = W4 at hc hb ⊢
  obtain ⟨c0, c1, c2, c3, c4, c5, c6, c7, c8, c9, c10⟩ := ca_cells hc
  obtain ⟨f0, f1, f2, f3, f4, f5, f6, f7, f8, f9, f10⟩ := ca_free hc
  go_wp2_with fail
  refine (Take_any y2 [] 0 0 0 0 0 0 ⟨#[]⟩ _ (nilI HY.out.n _ _) (by have := HY.out.n; omega) (fun h => absurd h HY.out.op)).mono ?_
  rintro e wt ⟨D, dn, dc, rfl, hd, hbx⟩
  replace HY : Hid (takeM y2 [] 0 0 0 = (yk 3 4 (-1) 0, false)) := by show _ = _; rw [HY.out]; exact wk3
  generalize takeM y2 [] 0 0 0 = Y at HY hd ⊢
  obtain ⟨y3, dl⟩ := Y
  have HD : Hid (dl = false) := congrArg Prod.snd HY.out
  replace HY : Hid (Yk y3 3 4 (-1) 0) := congrArg Prod.fst HY.out
  rw [HD.out] at hd
  dsimp only at hd ⊢
  have hdn := hd.len
  simp at hdn
  subst hdn
  have hcx := hc.below hbx hc.lt
  clear hd HD
  clear c0 c1 c2 c3 c4 c5 c6 c7 c8 c9 c10 f0 f1 f2 f3 f4 f5 f6 f7 f8 f9 f10
  obtain ⟨c0, c1, c2, c3, c4, c5, c6, c7, c8, c9, c10⟩ := ca_cells hcx
  obtain ⟨f0, f1, f2, f3, f4, f5, f6, f7, f8, f9, f10⟩ := ca_free hcx
  go_upto_region 9 with fail
  obtain ⟨hc2, hb2⟩ := wk_put (y := y3) hc hb hbx HG.out
  obtain ⟨W2, hW2⟩ : ∃ W2, W2 = caPut wt g y3 := ⟨_, rfl⟩
  rw [← hW2] at hc2 hb2 
  unfold caPut at hW2
  rw [← hW2]
  clear c0 c1 c2 c3 c4 c5 c6 c7 c8 c9 c10 f0 f1 f2 f3 f4 f5 f6 f7 f8 f9 f10
  clear hc hb hbx hcx hW2 
  have hc := hc2
  have hb := hb2
  clear hc2 hb2
  obtain ⟨c0, c1, c2, c3, c4, c5, c6, c7, c8, c9, c10⟩ := ca_cells hc
  obtain ⟨f0, f1, f2, f3, f4, f5, f6, f7, f8, f9, f10⟩ := ca_free hc
  go_wp2_with fail
  refine (Take_any y3 [] 0 5 0 0 9 0 ⟨#[]⟩ _ (nilI HY.out.n _ _) (by have := HY.out.n; omega) (fun h => absurd h HY.out.op)).mono ?_
  rintro e wt ⟨D, dn, dc, rfl, hd, hbx⟩
  replace HY : Hid (takeM y3 [] 0 9 0 = (yk 4 4 9 0, false)) := by show _ = _; rw [HY.out]; exact wk4
  generalize takeM y3 [] 0 9 0 = Y at HY hd ⊢
  obtain ⟨y4, dl⟩ := Y
  have HD : Hid (dl = false) := congrArg Prod.snd HY.out
  replace HY : Hid (Yk y4 4 4 9 0) := congrArg Prod.fst HY.out
  rw [HD.out] at hd
  dsimp only at hd ⊢
  have hdn := hd.len
  simp at hdn
  subst hdn
  have hcx := hc.below hbx hc.lt
  clear hd HD
  clear c0 c1 c2 c3 c4 c5 c6 c7 c8 c9 c10 f0 f1 f2 f3 f4 f5 f6 f7 f8 f9 f10
  obtain ⟨c0, c1, c2, c3, c4, c5, c6, c7, c8, c9, c10⟩ := ca_cells hcx
  obtain ⟨f0, f1, f2, f3, f4, f5, f6, f7, f8, f9, f10⟩ := ca_free hcx
  go_upto_region 10 with fail
  obtain ⟨hc2, hb2⟩ := wk_put (y := y4) hc hb hbx HG.out
  obtain ⟨W2, hW2⟩ : ∃ W2, W2 = caPut wt g y4 := ⟨_, rfl⟩
  rw [← hW2] at hc2 hb2 
  unfold caPut at hW2
  rw [← hW2]
  clear c0 c1 c2 c3 c4 c5 c6 c7 c8 c9 c10 f0 f1 f2 f3 f4 f5 f6 f7 f8 f9 f10
  clear hc hb hbx hcx hW2 
  have hc := hc2
  have hb := hb2
  clear hc2 hb2
  obtain ⟨c0, c1, c2, c3, c4, c5, c6, c7, c8, c9, c10⟩ := ca_cells hc
  obtain ⟨f0, f1, f2, f3, f4, f5, f6, f7, f8, f9, f10⟩ := ca_free hc
  have hE : ∀ wx, (Op.equalIn 10000 28 (.agg #[.int .i64 y4.rt, .int .i64 y4.rs, .int .i64 y4.re]) (.agg #[.int .i64 4, .int .i64 9, .int .i64 0])).run Try.prog wx = .ok true wx := by
    intro wx
    rw [eqRp, HY.out]
    simp [yk]
  have HOV : Hid (overB y4 = true) := by show _ = _; rw [HY.out]; rfl
  have HWB : Hid (waitsB y4 = false) := by show _ = _; rw [HY.out]; rfl
  go_wp2_with fail
  have hc1 := hc.below (Below.new_ W2 (.cells #[.int .i64 y4.id, .int .i64 y4.done, .int .i8 y4.op, .int .i64 y4.owner, .int .i64 y4.sock, .slice y4.A y4.n y4.c, .int .i8 y4.st, .int .i64 y4.i, .int .i64 y4.rt, .int .i64 y4.rs, .int .i64 y4.re] 30)) hc.lt
  have hb1 := hb.alloc hb.size (.cells #[.int .i64 y4.id, .int .i64 y4.done, .int .i8 y4.op, .int .i64 y4.owner, .int .i64 y4.sock, .slice y4.A y4.n y4.c, .int .i8 y4.st, .int .i64 y4.i, .int .i64 y4.rt, .int .i64 y4.rs, .int .i64 y4.re] 30)
  have hA1 := Cas.new1 W2 _ rfl y4 30
  generalize W2.alloc (.cells #[.int .i64 y4.id, .int .i64 y4.done, .int .i8 y4.op, .int .i64 y4.owner, .int .i64 y4.sock, .slice y4.A y4.n y4.c, .int .i8 y4.st, .int .i64 y4.i, .int .i64 y4.rt, .int .i64 y4.rs, .int .i64 y4.re] 30) = W5 at hc1 hb1 hA1 ⊢
  clear hc hb c0 c1 c2 c3 c4 c5 c6 c7 c8 c9 c10 f0 f1 f2 f3 f4 f5 f6 f7 f8 f9 f10
  have hz : W2.heap.size + 1 ≤ W5.heap.size := by
    obtain ⟨b, off, _, e1, hb, _, k0, _⟩ := hA1.cells (i := 0) (by omega)
    injection e1 with e1
    injection e1 with e1 e2
    subst e1
    exact block_lt_of_cell k0
  refine (Over_one _ _ _ _ [] _ hA1 hz (nilI HY.out.n _ _) (by have := HY.out.n; omega)).mono ?_
  rintro e w6 ⟨rfl, hbx⟩
  rw [HOV.out]
  replace hb1 := hb1.trans (hbx.mono hb1.size)
  replace hc1 := hc1.below hbx hc1.lt
  clear hbx hA1 hz
  obtain ⟨c0, c1, c2, c3, c4, c5, c6, c7, c8, c9, c10⟩ := ca_cells hc1
  go_wp2_with fail
  have hb2 := hb1.alloc hb1.size (.cells #[.int .i64 y4.id, .int .i64 y4.done, .int .i8 y4.op, .int .i64 y4.owner, .int .i64 y4.sock, .slice y4.A y4.n y4.c, .int .i8 y4.st, .int .i64 y4.i, .int .i64 y4.rt, .int .i64 y4.rs, .int .i64 y4.re] 30)
  have hA2 := Cas.new1 w6 _ rfl y4 30
  generalize w6.alloc (.cells #[.int .i64 y4.id, .int .i64 y4.done, .int .i8 y4.op, .int .i64 y4.owner, .int .i64 y4.sock, .slice y4.A y4.n y4.c, .int .i8 y4.st, .int .i64 y4.i, .int .i64 y4.rt, .int .i64 y4.rs, .int .i64 y4.re] 30) = W7 at hb2 hA2 ⊢
  have hz : w6.heap.size + 1 ≤ W7.heap.size := by
    obtain ⟨b, off, _, e1, hb, _, k0, _⟩ := hA2.cells (i := 0) (by omega)
    injection e1 with e1
    injection e1 with e1 e2
    subst e1
    exact block_lt_of_cell k0
  refine (Waits_one _ _ _ _ _ hA2 hz).mono ?_
  rintro e w8 ⟨A8, n8, c8, rfl, hn8, hbx⟩
  rw [HWB.out] at hn8
  simp only [Bool.false_eq_true, if_false] at hn8
  subst hn8
  replace hb2 := hb2.trans (hbx.mono hb2.size)
  go_wp2_with fail
  go_ret
  exact ⟨rfl, hb2⟩
end Go.Proofs.Ytamfbbmkkhcnpaa
