/-
  What caller's Close computes. Conditions: bounds are premises.
-/
import Derived.Test.YtamfbbmkkhcnpaaCall10
namespace Go.Proofs.Ytamfbbmkkhcnpaa
open Go.RowKit

/-- The caller of a Close behind its beginning. -/
def closeC (id done : Int) (A : Option Addr) (n c : Nat) : Ca := ⟨id, done, 4, 0, 0, A, n, c, if n = 0 then 4 else 0, 0, id, -1, 0⟩
def ClosePost (id done : Int) (L : List Int) (w : World) (e : Ending) (w' : World) : Prop := ∃ y A c D dn dc, e = .returned (.tuple #[.agg #[.int .i64 y.id, .int .i64 y.done, .int .i8 y.op, .int .i64 y.owner, .int .i64 y.sock, .slice y.A y.n y.c, .int .i8 y.st, .int .i64 y.i, .int .i64 y.rt, .int .i64 y.rs, .int .i64 y.re], .slice D dn dc]) ∧ Hid (y = closeC id done A L.length c) ∧ Ints w' w'.heap.size A L.length L ∧ Des w' w'.heap.size D dn (if L.length = 0 then [done] else []) ∧ Below w.heap.size w w'
theorem ints_put {w w' : World} {g : Nat} {A : Option Addr} {n : Nat} {l : List Int} {y : Ca} (hd : Ints w w.heap.size A n l) (hne : ∀ b off, A = some ⟨b, off, none⟩ → 0 < n → b ≠ g) (e' : w' = (caPut w g y).drew) : Ints w' w'.heap.size A n l := by
  subst e'
  have h2 : (caPut w g y).heap.size = w.heap.size := by simp [caPut]
  have h3 : Ints (caPut w g y) w.heap.size A n l := by
    refine ⟨hd.1, fun h0 h1 => ?_⟩
    obtain ⟨b, off, e1, hb, hc⟩ := hd.2 h0 h1
    refine ⟨b, off, e1, hb, fun j u hu => ?_⟩
    rw [← hc j u hu]
    have hn := hne b off e1 h0
    have : (caPut w g y).heap[b]? = w.heap[b]? := by unfold caPut; repeat rw [Below.heap_setCell _ _ _ _ hn]
    simp [World.cell?, this]
  have h4 : Ints (caPut w g y) (caPut w g y).heap.size A n l := by rw [h2]; exact h3
  have : ∀ W : World, Ints W W.heap.size A n l → Ints W.drew W.drew.heap.size A n l := fun W h => h
  exact this _ h4
set_option maxRecDepth 100000 in
set_option maxHeartbeats 4000000 in
theorem Close_any (id done : Int) (A : Option Addr) (n c : Nat) (L : List Int) (w : World) (hs : Ints w w.heap.size A n L) (hn : n ≤ 1000) :
    Calls Try.prog 14 #[.int .i64 id, .int .i64 done, .slice A n c] w fun e w' => ClosePost id done L w e w' := by
  have hLn := hs.len
  subst hLn
  have hr : (w.alloc (.cells #[.int .i64 0, .int .i64 0, .int .i8 0, .int .i64 0, .int .i64 0, .slice none 0 0, .int .i8 0, .int .i64 0, .int .i64 0, .int .i64 0, .int .i64 0] 30)).heap[w.heap.size]? = some (.cells #[.int .i64 zeroCa.id, .int .i64 zeroCa.done, .int .i8 zeroCa.op, .int .i64 zeroCa.owner, .int .i64 zeroCa.sock, .slice zeroCa.A zeroCa.n zeroCa.c, .int .i8 zeroCa.st, .int .i64 zeroCa.i, .int .i64 zeroCa.rt, .int .i64 zeroCa.rs, .int .i64 zeroCa.re] 30 (0, 0)) := heap_alloc_new w _
  have hb := Below.new_ w (.cells #[.int .i64 0, .int .i64 0, .int .i8 0, .int .i64 0, .int .i64 0, .slice none 0 0, .int .i8 0, .int .i64 0, .int .i64 0, .int .i64 0, .int .i64 0] 30)
  have hl : w.heap.size < (w.alloc (.cells #[.int .i64 0, .int .i64 0, .int .i8 0, .int .i64 0, .int .i64 0, .slice none 0 0, .int .i8 0, .int .i64 0, .int .i64 0, .int .i64 0, .int .i64 0] 30)).heap.size := by simp
  go_enter Try.func14, Try.ntmps14
  go_upto_region 1 with fail
  generalize (w.alloc (.cells #[.int .i64 0, .int .i64 0, .int .i8 0, .int .i64 0, .int .i64 0, .slice none 0 0, .int .i8 0, .int .i64 0, .int .i64 0, .int .i64 0, .int .i64 0] 30)) = W at hr hb hl ⊢
  go_wp2_with fail
  refine (begin_any _ _ _ _ _).mono ?_
  rintro e w1 ⟨rfl, hC, hbx⟩
  have hs1 := ((hs.below hb).below' hbx hb.size).more (Nat.le_trans hb.size hbx.size)
  replace hr := (hbx.block _ hl).trans hr
  replace hb := hb.trans (hbx.mono hb.size)
  have hl1 : W.heap.size < w1.heap.size := hC.lt
  clear hbx
  go_wp2_with fail
  refine (CloneI_any _ _ _ _ L _ hs1 (by omega)).mono ?_
  rintro e w2 ⟨A', c', rfl, ho, hbx⟩
  replace hr := (hbx.block _ (Nat.lt_trans hl hl1)).trans hr
  replace hb := hb.trans (hbx.mono hb.size)
  replace hC := hC.below hbx hl1
  obtain ⟨f6, f7, f8, f9, f10, f11, f5⟩ := hC.free
  obtain ⟨z0, z1, z2, z3, z4, z5, z6, z7, z8, z9, z10, z11⟩ := hC.cells
  clear hbx hs1
  go_upto_region 3 with fail
  have hg : ∀ q, rowOf A' c' = some q → w1.heap.size ≤ q := fun q hq => (Ow.row ho q hq).1
  replace ho : OwI (w2.setCell ⟨W.heap.size, 5, none⟩ (.slice A' L.length c')) w1.heap.size 3 A' L.length c' L := Ow.set ho (p := ⟨W.heap.size, 5, none⟩) (fun q hq e => by have := hg q hq; simp at e; omega) _
  replace hr : (w2.setCell ⟨W.heap.size, 5, none⟩ (.slice A' L.length c')).heap[w.heap.size]? = some (.cells #[.int .i64 zeroCa.id, .int .i64 zeroCa.done, .int .i8 zeroCa.op, .int .i64 zeroCa.owner, .int .i64 zeroCa.sock, .slice zeroCa.A zeroCa.n zeroCa.c, .int .i8 zeroCa.st, .int .i64 zeroCa.i, .int .i64 zeroCa.rt, .int .i64 zeroCa.rs, .int .i64 zeroCa.re] 30 (0, 0)) := (Below.heap_setCell w2 ⟨W.heap.size, 5, none⟩ _ _ (by simp; omega)).trans hr
  have hb0 : w.heap.size ≤ W.heap.size := by omega
  replace hb := hb.setCell (p := ⟨W.heap.size, 5, none⟩) hb0 (.slice A' L.length c')
  replace hC := hC.set5 (A' := A') (n' := L.length) (c' := c')
  clear z0 z1 z2 z3 z4 z5 z6 z7 z8 z9 z10 z11 f6 f7 f8 f9 f10 f11 f5
  generalize w2.setCell ⟨W.heap.size, 5, none⟩ (.slice A' L.length c') = w3 at ho hr hb hC ⊢
  have hfar : ∀ b off, A' = some ⟨b, off, none⟩ → 0 < L.length → w1.heap.size ≤ b := by
    rintro b off rfl h0
    have hc0 : c' ≠ 0 := by have := ho.2.1; omega
    exact hg b (by simp [rowOf, hc0])
  have HF := Lib.hid hfar
  clear hfar hg
  by_cases h0 : L.length = 0
  · have d0 : ((L.length : Int) == 0) = true := by simpa using h0
    obtain rfl : L = [] := List.eq_nil_of_length_eq_zero h0
    clear h0
    obtain ⟨f6, f7, f8, f9, f10, f11, f5⟩ := hC.free
    obtain ⟨z0, z1, z2, z3, z4, z5, z6, z7, z8, z9, z10, z11⟩ := hC.cells
    go_upto_region 5 with fail
    replace hr : (w3.setCell ⟨W.heap.size, 6, none⟩ (.int .i8 4)).heap[w.heap.size]? = some (.cells #[.int .i64 zeroCa.id, .int .i64 zeroCa.done, .int .i8 zeroCa.op, .int .i64 zeroCa.owner, .int .i64 zeroCa.sock, .slice zeroCa.A zeroCa.n zeroCa.c, .int .i8 zeroCa.st, .int .i64 zeroCa.i, .int .i64 zeroCa.rt, .int .i64 zeroCa.rs, .int .i64 zeroCa.re] 30 (0, 0)) := (Below.heap_setCell w3 ⟨W.heap.size, 6, none⟩ _ _ (by simp; omega)).trans hr
    replace hb := hb.setCell (p := ⟨W.heap.size, 6, none⟩) hb0 (.int .i8 4)
    replace hC := hC.set6 4
    clear z0 z1 z2 z3 z4 z5 z6 z7 z8 z9 z10 z11 f6 f7 f8 f9 f10 f11 f5 ho
    generalize w3.setCell ⟨W.heap.size, 6, none⟩ (.int .i8 4) = w4 at hr hb hC ⊢
    go_wp2_with fail
    refine (shuts_any _ _ _ hC).mono ?_
    rintro e w5 ⟨D, dc, rfl, hc5, hd5, hb5⟩
    replace hr := (hb5.block _ hl).trans hr
    replace hb := hb.trans (hb5.mono hb0)
    replace hC := hc5
    have hd := hd5
    clear hb5 hd5 hc5
    go_wp2_with fail
    generalize hy : ({ beginC id done 4 0 with A := A', n := ([] : List Int).length, c := c', st := 4 } : Ca) = y at hC
    have hy2 : Hid (y = closeC id done A' ([] : List Int).length c') := by show _ = _; rw [← hy]; rfl
    clear hy
    change Des w5 w5.heap.size D 1 [done] at hd
    obtain ⟨z0, z1, z2, z3, z4, z5, z6, z7, z8, z9, z10, z11⟩ := hC.cells
    obtain ⟨f0, f1, f2, f3, f4, f5, f6, f7, f8, f9, f10⟩ := ca_free hr
    obtain ⟨r0, r1, r2, r3, r4, r5, r6, r7, r8, r9, r10⟩ := ca_cells hr
    try dsimp only at z0 z1 z2 z3 z4 z5 z6 z7 z8 z9 z10 z11
    go_region
    obtain ⟨q0, q1, q2, q3, q4, q5, q6, q7, q8, q9, q10⟩ := ca_cells (ca_drew (caPut_at y hr))
    clear z0 z1 z2 z3 z4 z5 z6 z7 z8 z9 z10 z11 r0 r1 r2 r3 r4 r5 r6 r7 r8 r9 r10 f0 f1 f2 f3 f4 f5 f6 f7 f8 f9 f10
    unfold caPut at q0 q1 q2 q3 q4 q5 q6 q7 q8 q9 q10
    go_wp2_with fail
    exact bodyPost_ret (v := .tuple #[.agg #[.int .i64 y.id, .int .i64 y.done, .int .i8 y.op, .int .i64 y.owner, .int .i64 y.sock, .slice y.A y.n y.c, .int .i8 y.st, .int .i64 y.i, .int .i64 y.rt, .int .i64 y.rs, .int .i64 y.re], .slice D 1 dc]) (by simp [results, Try.results14, go_sem, q0, q1, q2, q3, q4, q5, q6, q7, q8, q9, q10]) rfl (by exact ⟨y, A', c', D, 1, dc, rfl, hy2, Sl.nil_ _ _ _ _, tk_des hd hr rfl, tk_below hb (Nat.le_refl _) rfl⟩)
  · have d0 : ((L.length : Int) == 0) = false := by rw [beq_eq_false_iff_ne]; omega
    have H0 := Lib.hid h0
    clear h0
    go_wp2_with fail
    have hy2 : ({ beginC id done 4 0 with A := A', n := L.length, c := c' } : Ca) = closeC id done A' L.length c' := by unfold closeC beginC; rw [if_neg H0.out]
    rw [hy2] at hC
    clear hy2
    generalize hy : closeC id done A' L.length c' = y at hC
    have hy2 := Lib.hid hy.symm
    clear hy
    obtain ⟨z0, z1, z2, z3, z4, z5, z6, z7, z8, z9, z10, z11⟩ := hC.cells
    obtain ⟨f0, f1, f2, f3, f4, f5, f6, f7, f8, f9, f10⟩ := ca_free hr
    obtain ⟨r0, r1, r2, r3, r4, r5, r6, r7, r8, r9, r10⟩ := ca_cells hr
    try dsimp only at z0 z1 z2 z3 z4 z5 z6 z7 z8 z9 z10 z11
    go_region
    obtain ⟨q0, q1, q2, q3, q4, q5, q6, q7, q8, q9, q10⟩ := ca_cells (ca_drew (caPut_at y hr))
    clear z0 z1 z2 z3 z4 z5 z6 z7 z8 z9 z10 z11 r0 r1 r2 r3 r4 r5 r6 r7 r8 r9 r10 f0 f1 f2 f3 f4 f5 f6 f7 f8 f9 f10
    unfold caPut at q0 q1 q2 q3 q4 q5 q6 q7 q8 q9 q10
    go_wp2_with fail
    exact bodyPost_ret (v := .tuple #[.agg #[.int .i64 y.id, .int .i64 y.done, .int .i8 y.op, .int .i64 y.owner, .int .i64 y.sock, .slice y.A y.n y.c, .int .i8 y.st, .int .i64 y.i, .int .i64 y.rt, .int .i64 y.rs, .int .i64 y.re], .slice none 0 0]) (by simp [results, Try.results14, go_sem, q0, q1, q2, q3, q4, q5, q6, q7, q8, q9, q10]) rfl (by refine ⟨y, A', c', none, 0, 0, rfl, hy2, ints_put ho.ints (fun b off e h => by have := HF.out b off e h; omega) rfl, ?_, tk_below hb (Nat.le_refl _) rfl⟩; rw [if_neg H0.out]; exact Recs.nil_ _ _ _)
end Go.Proofs.Ytamfbbmkkhcnpaa
