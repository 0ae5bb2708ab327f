/-
  What caller's Take computes. Conditions: bounds are premises.
-/
import Derived.Test.YtamfbbmkkhcnpaaCall6
namespace Go.Proofs.Ytamfbbmkkhcnpaa
open Go.RowKit

theorem ca_drew {w : World} {g : Nat} {x : Ca} {t : TypeId} (h : w.heap[g]? = some (.cells #[.int .i64 x.id, .int .i64 x.done, .int .i8 x.op, .int .i64 x.owner, .int .i64 x.sock, .slice x.A x.n x.c, .int .i8 x.st, .int .i64 x.i, .int .i64 x.rt, .int .i64 x.rs, .int .i64 x.re] t (0, 0))) : w.drew.heap[g]? = some (.cells #[.int .i64 x.id, .int .i64 x.done, .int .i8 x.op, .int .i64 x.owner, .int .i64 x.sock, .slice x.A x.n x.c, .int .i8 x.st, .int .i64 x.i, .int .i64 x.rt, .int .i64 x.rs, .int .i64 x.re] t (0, 0)) := h
theorem des_drewS {W : World} {D : Option Addr} {dn : Nat} {l : List Int} (h : Des W W.heap.size D dn l) : Des W.drew W.drew.heap.size D dn l := h
theorem tk_des {w w' : World} {g : Nat} {D : Option Addr} {dn : Nat} {l : List Int} {y : Ca} {e : TypeId} (hd : Des w w.heap.size D dn l) (hr : w.heap[g]? = some (.cells #[.int .i64 zeroCa.id, .int .i64 zeroCa.done, .int .i8 zeroCa.op, .int .i64 zeroCa.owner, .int .i64 zeroCa.sock, .slice zeroCa.A zeroCa.n zeroCa.c, .int .i8 zeroCa.st, .int .i64 zeroCa.i, .int .i64 zeroCa.rt, .int .i64 zeroCa.rs, .int .i64 zeroCa.re] e (0, 0))) (e' : w' = (caPut w g y).drew) : Des w' w'.heap.size D dn l := by
  have h1 := des_put (y := y) hd hr (des_ne hd hr)
  have h2 : (caPut w g y).heap.size = w.heap.size := by simp [caPut]
  have h3 : Des (caPut w g y) (caPut w g y).heap.size D dn l := by rw [h2]; exact h1
  subst e'
  exact des_drewS h3
theorem tk_below {B : Nat} {w0 w w' : World} {g : Nat} {y : Ca} (h : Below B w0 w) (hg : B ≤ g) (e' : w' = (caPut w g y).drew) : Below B w0 w' := by subst e'; exact (caPut_below y h hg).drew
set_option maxRecDepth 100000 in
set_option maxHeartbeats 4000000 in
theorem Take_any (x : Ca) (L : List Int) (i mk mf mn ms me : Int) (mt : ByteArray) (w : World) (hs : Ints w w.heap.size x.A x.n L) (hn : x.n ≤ 1000) (hi : x.op = 4 → 0 ≤ x.i ∧ x.i ≤ 1000000) :
    Calls Try.prog 11 #[.agg #[.int .i64 x.id, .int .i64 x.done, .int .i8 x.op, .int .i64 x.owner, .int .i64 x.sock, .slice x.A x.n x.c, .int .i8 x.st, .int .i64 x.i, .int .i64 x.rt, .int .i64 x.rs, .int .i64 x.re], .int .i64 i, .agg #[.int .i8 mk, .int .i64 mf, .int .i64 mn, .int .i64 ms, .string mt, .int .i64 me]] w fun e w' => TakePost (takeM x L i ms me) x.done w e w' := by
  have hI := TkInv.new x mk mf mn ms me mt x.done w
  have hm := heap_alloc_new (w.alloc (.cells #[.int .i64 x.id, .int .i64 x.done, .int .i8 x.op, .int .i64 x.owner, .int .i64 x.sock, .slice x.A x.n x.c, .int .i8 x.st, .int .i64 x.i, .int .i64 x.rt, .int .i64 x.rs, .int .i64 x.re] 30)) (.cells #[.int .i8 mk, .int .i64 mf, .int .i64 mn, .int .i64 ms, .string mt, .int .i64 me] 38)
  have hm : ((((w.alloc (.cells #[.int .i64 x.id, .int .i64 x.done, .int .i8 x.op, .int .i64 x.owner, .int .i64 x.sock, .slice x.A x.n x.c, .int .i8 x.st, .int .i64 x.i, .int .i64 x.rt, .int .i64 x.rs, .int .i64 x.re] 30)).alloc (.cells #[.int .i8 mk, .int .i64 mf, .int .i64 mn, .int .i64 ms, .string mt, .int .i64 me] 38)).alloc (.cells #[.int .i64 0, .int .i64 0, .int .i8 0, .int .i64 0, .int .i64 0, .slice none 0 0, .int .i8 0, .int .i64 0, .int .i64 0, .int .i64 0, .int .i64 0] 30)).alloc (.cells #[.int .i64 x.id, .int .i64 x.done, .int .i8 x.op, .int .i64 x.owner, .int .i64 x.sock, .slice x.A x.n x.c, .int .i8 x.st, .int .i64 x.i, .int .i64 x.rt, .int .i64 x.rs, .int .i64 x.re, .slice none 0 0] 59)).heap[w.heap.size + 1]? = some (.cells #[.int .i8 mk, .int .i64 mf, .int .i64 mn, .int .i64 ms, .string mt, .int .i64 me] 38 (0, 0)) := by
    rw [Below.heap_alloc _ _ _ (by first | omega | (simp; done) | (simp; omega)), Below.heap_alloc _ _ _ (by first | omega | (simp; done) | (simp; omega))]
    simpa only [World.size_alloc] using hm
  have hH : Hid (TakePost (takeM x L i ms me) x.done w = TakePost (takeM x L i ms me) x.done w) := rfl
  go_enter Try.func11, Try.ntmps11
  go_upto_region 2 with fail
  generalize ((((w.alloc (.cells #[.int .i64 x.id, .int .i64 x.done, .int .i8 x.op, .int .i64 x.owner, .int .i64 x.sock, .slice x.A x.n x.c, .int .i8 x.st, .int .i64 x.i, .int .i64 x.rt, .int .i64 x.rs, .int .i64 x.re] 30)).alloc (.cells #[.int .i8 mk, .int .i64 mf, .int .i64 mn, .int .i64 ms, .string mt, .int .i64 me] 38)).alloc (.cells #[.int .i64 0, .int .i64 0, .int .i8 0, .int .i64 0, .int .i64 0, .slice none 0 0, .int .i8 0, .int .i64 0, .int .i64 0, .int .i64 0, .int .i64 0] 30)).alloc (.cells #[.int .i64 x.id, .int .i64 x.done, .int .i8 x.op, .int .i64 x.owner, .int .i64 x.sock, .slice x.A x.n x.c, .int .i8 x.st, .int .i64 x.i, .int .i64 x.rt, .int .i64 x.rs, .int .i64 x.re, .slice none 0 0] 59)) = W at hI hm ⊢
  have HS : Hid (Ints W W.heap.size x.A x.n L) := (hs.below hI.below).more hI.below.size
  clear hs
  clear hH
  have hc : i < 0 ∨ (0 ≤ i ∧ ((casesL x L).length : Int) ≤ i) ∨ (0 ≤ i ∧ i < ((casesL x L).length : Int)) := by omega
  have HN : Hid (∀ W' : World, Below (w.heap.size + 1 + 1 + 1) W W' → W'.heap[w.heap.size + 1 + 1]? = some (.cells #[.int .i64 zeroCa.id, .int .i64 zeroCa.done, .int .i8 zeroCa.op, .int .i64 zeroCa.owner, .int .i64 zeroCa.sock, .slice zeroCa.A zeroCa.n zeroCa.c, .int .i8 zeroCa.st, .int .i64 zeroCa.i, .int .i64 zeroCa.rt, .int .i64 zeroCa.rs, .int .i64 zeroCa.re] 30 (0, 0))) := fun W' hb => (hb.block _ (by omega)).trans hI.res
  obtain h | h | h := hc
  case' inl =>
    have HT : Hid (takeM x L i ms me = (x, false)) := by show _ = _; unfold takeM; rw [if_neg (by omega)]
    have d0 : decide (0 ≤ i) = false := by simp; omega
    have H1 := Lib.hid h
    clear h
    go_wp2_with fail
    have hc := hI.cl
    have hr := hI.res
    have hd := hI.des
    have hb := hI.below
    clear d0 hm
    generalize W = W3 at hc hr hd hb ⊢
  case' inr.inl =>
    have HT : Hid (takeM x L i ms me = (x, false)) := by show _ = _; unfold takeM; rw [if_neg (by omega)]
    have d0 : decide (0 ≤ i) = true := by simp; omega
    have H1 := Lib.hid h
    clear h
    go_wp2_with fail
    refine (cases_any _ x _ _ _ L _ hI.cl HS.out hn).mono ?_
    rintro e w1 ⟨A', m, c', rfl, hr1, hbx⟩
    have d1 : decide (i < (m : Int)) = false := by have := hr1.len; have := H1.out; simp; omega
    have hc := hI.cl.below hbx hI.cl.lt
    have hr := (hbx.block _ (by have := hI.cl.lt; omega)).trans hI.res
    have hd := (hI.des.below hbx).more hbx.size
    have hb := hI.below.trans (hbx.mono hI.below.size)
    clear hbx hr1
    go_wp2_with fail
    clear d0 d1 hm
    generalize w1 = W3 at hc hr hd hb ⊢
  case' inr.inr =>
    have HT : Hid (takeM x L i ms me = goesM x i ms me) := by show _ = _; unfold takeM; rw [if_pos (by omega)]
    have d0 : decide (0 ≤ i) = true := by simp; omega
    have H1 := Lib.hid h
    clear h
    go_wp2_with fail
    refine (cases_any _ x _ _ _ L _ hI.cl HS.out hn).mono ?_
    rintro e w1 ⟨A', m, c', rfl, hr1, hbx⟩
    have d1 : decide (i < (m : Int)) = true := by have := hr1.len; have := H1.out; simp; omega
    have hm1 := (hbx.block _ (by have := hI.cl.lt; omega)).trans hm
    have hc1 := hI.cl.below hbx hI.cl.lt
    have hb1 := hI.below.trans (hbx.mono hI.below.size)
    have m0 : w1.cell? ⟨w.heap.size + 1, 0, none⟩ = some (.int .i8 mk) := by simp [World.cell?, hm1]
    have m1 : w1.cell? ⟨w.heap.size + 1, 1, none⟩ = some (.int .i64 mf) := by simp [World.cell?, hm1]
    have m2 : w1.cell? ⟨w.heap.size + 1, 2, none⟩ = some (.int .i64 mn) := by simp [World.cell?, hm1]
    have m3 : w1.cell? ⟨w.heap.size + 1, 3, none⟩ = some (.int .i64 ms) := by simp [World.cell?, hm1]
    have m4 : w1.cell? ⟨w.heap.size + 1, 4, none⟩ = some (.string mt) := by simp [World.cell?, hm1]
    have m5 : w1.cell? ⟨w.heap.size + 1, 5, none⟩ = some (.int .i64 me) := by simp [World.cell?, hm1]
    clear hr1 hm hm1
    go_wp2_with fail
    refine (goes_any _ x i mk mf mn ms me mt _ hc1 hi hn H1.out.1 (by have := H1.out; have := casesL_le x L; omega)).mono ?_
    rintro e w2 ⟨D, dn, dc, rfl, hc, hd, hb2⟩
    have hr := HN.out _ ((hbx.mono (Nat.le_of_lt hI.cl.lt)).trans hb2)
    have hb := hb1.trans (hb2.mono (by omega))
    clear m0 m1 m2 m3 m4 m5 d0 d1 hbx hb2 hc1 hb1
    go_wp2_with fail
    generalize w2 = W3 at hc hr hd hb ⊢
    generalize goesM x i ms me = Y at HT hc hd ⊢
  all_goals
    obtain ⟨z0, z1, z2, z3, z4, z5, z6, z7, z8, z9, z10, z11⟩ := hc.cells
    obtain ⟨f0, f1, f2, f3, f4, f5, f6, f7, f8, f9, f10⟩ := ca_free hr
    obtain ⟨r0, r1, r2, r3, r4, r5, r6, r7, r8, r9, r10⟩ := ca_cells hr
    try dsimp only at z0 z1 z2 z3 z4 z5 z6 z7 z8 z9 z10 z11
  all_goals go_region
  case inr.inr =>
    obtain ⟨q0, q1, q2, q3, q4, q5, q6, q7, q8, q9, q10⟩ := ca_cells (ca_drew (caPut_at Y.1 hr))
    clear z0 z1 z2 z3 z4 z5 z6 z7 z8 z9 z10 z11 r0 r1 r2 r3 r4 r5 r6 r7 r8 r9 r10 f0 f1 f2 f3 f4 f5 f6 f7 f8 f9 f10
    unfold caPut at q0 q1 q2 q3 q4 q5 q6 q7 q8 q9 q10
    go_wp2_with fail
    exact bodyPost_ret (v := .tuple #[.agg #[.int .i64 Y.1.id, .int .i64 Y.1.done, .int .i8 Y.1.op, .int .i64 Y.1.owner, .int .i64 Y.1.sock, .slice Y.1.A Y.1.n Y.1.c, .int .i8 Y.1.st, .int .i64 Y.1.i, .int .i64 Y.1.rt, .int .i64 Y.1.rs, .int .i64 Y.1.re], .slice D dn dc]) (by simp [results, Try.results11, go_sem, q0, q1, q2, q3, q4, q5, q6, q7, q8, q9, q10]) rfl (by rw [HT.out]; exact ⟨D, dn, dc, rfl, tk_des hd hr rfl, tk_below hb (by omega) rfl⟩)
  all_goals
    obtain ⟨q0, q1, q2, q3, q4, q5, q6, q7, q8, q9, q10⟩ := ca_cells (ca_drew (caPut_at x hr))
    clear z0 z1 z2 z3 z4 z5 z6 z7 z8 z9 z10 z11 r0 r1 r2 r3 r4 r5 r6 r7 r8 r9 r10 f0 f1 f2 f3 f4 f5 f6 f7 f8 f9 f10
    unfold caPut at q0 q1 q2 q3 q4 q5 q6 q7 q8 q9 q10
    go_wp2_with fail
    exact bodyPost_ret (v := .tuple #[.agg #[.int .i64 x.id, .int .i64 x.done, .int .i8 x.op, .int .i64 x.owner, .int .i64 x.sock, .slice x.A x.n x.c, .int .i8 x.st, .int .i64 x.i, .int .i64 x.rt, .int .i64 x.rs, .int .i64 x.re], .slice none 0 0]) (by simp [results, Try.results11, go_sem, q0, q1, q2, q3, q4, q5, q6, q7, q8, q9, q10]) rfl (by rw [HT.out]; exact ⟨none, 0, 0, rfl, tk_des hd hr rfl, tk_below hb (by omega) rfl⟩)
end Go.Proofs.Ytamfbbmkkhcnpaa
