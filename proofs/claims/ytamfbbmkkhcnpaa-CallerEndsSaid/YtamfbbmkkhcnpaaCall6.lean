/-
  What caller's Get, Offers, Take compute. Conditions: bounds are premises.
-/
import Derived.Test.YtamfbbmkkhcnpaaCall5
namespace Go.Proofs.Ytamfbbmkkhcnpaa
open Go.RowKit

def beginC (id done op owner : Int) : Ca := ⟨id, done, op, owner, 0, none, 0, 0, 0, 0, id, -1, 0⟩
theorem begin_any (id done op owner : Int) (w : World) : Calls Try.prog 16 #[.int .i64 id, .int .i64 done, .int .i8 op, .int .i64 owner] w fun e w' => e = .returned (.pointer (some ⟨w.heap.size, 0, none⟩)) ∧ Cl w' w.heap.size (beginC id done op owner) none 0 0 ∧ Below w.heap.size w w' := by
  go_enter Try.func16, Try.ntmps16
  go_wp2_with fail
  go_ret
  exact ⟨rfl, heap_alloc_new w _, Below.new_ w _⟩
set_option maxRecDepth 100000 in
set_option maxHeartbeats 2000000 in
theorem Get_any (id done owner : Int) (w : World) : Calls Try.prog 7 #[.int .i64 id, .int .i64 done, .int .i64 owner] w fun e w' => e = .returned (.agg #[.int .i64 (beginC id done 0 owner).id, .int .i64 (beginC id done 0 owner).done, .int .i8 (beginC id done 0 owner).op, .int .i64 (beginC id done 0 owner).owner, .int .i64 (beginC id done 0 owner).sock, .slice (beginC id done 0 owner).A (beginC id done 0 owner).n (beginC id done 0 owner).c, .int .i8 (beginC id done 0 owner).st, .int .i64 (beginC id done 0 owner).i, .int .i64 (beginC id done 0 owner).rt, .int .i64 (beginC id done 0 owner).rs, .int .i64 (beginC id done 0 owner).re]) ∧ Below w.heap.size w w' := by
  have hr : (w.alloc (.cells #[.int .i64 0, .int .i64 0, .int .i8 0, .int .i64 0, .int .i64 0, .slice none 0 0, .int .i8 0, .int .i64 0, .int .i64 0, .int .i64 0, .int .i64 0] 30)).heap[w.heap.size]? = some (.cells #[.int .i64 zeroCa.id, .int .i64 zeroCa.done, .int .i8 zeroCa.op, .int .i64 zeroCa.owner, .int .i64 zeroCa.sock, .slice zeroCa.A zeroCa.n zeroCa.c, .int .i8 zeroCa.st, .int .i64 zeroCa.i, .int .i64 zeroCa.rt, .int .i64 zeroCa.rs, .int .i64 zeroCa.re] 30 (0, 0)) := heap_alloc_new w _
  have hb := Below.new_ w (.cells #[.int .i64 0, .int .i64 0, .int .i8 0, .int .i64 0, .int .i64 0, .slice none 0 0, .int .i8 0, .int .i64 0, .int .i64 0, .int .i64 0, .int .i64 0] 30)
  have hl : w.heap.size < (w.alloc (.cells #[.int .i64 0, .int .i64 0, .int .i8 0, .int .i64 0, .int .i64 0, .slice none 0 0, .int .i8 0, .int .i64 0, .int .i64 0, .int .i64 0, .int .i64 0] 30)).heap.size := by simp
  go_enter Try.func7, Try.ntmps7
  go_wp2_with fail
  generalize (w.alloc (.cells #[.int .i64 0, .int .i64 0, .int .i8 0, .int .i64 0, .int .i64 0, .slice none 0 0, .int .i8 0, .int .i64 0, .int .i64 0, .int .i64 0, .int .i64 0] 30)) = W at hr hb hl ⊢
  refine (begin_any _ _ _ _ _).mono ?_
  rintro e w1 ⟨rfl, hC, hbx⟩
  replace hr := (hbx.block _ hl).trans hr
  replace hb := hb.trans (hbx.mono hb.size)
  clear hbx
  obtain ⟨z0, z1, z2, z3, z4, z5, z6, z7, z8, z9, z10, z11⟩ := hC.cells
  obtain ⟨r0, r1, r2, r3, r4, r5, r6, r7, r8, r9, r10⟩ := ca_cells hr
  obtain ⟨f0, f1, f2, f3, f4, f5, f6, f7, f8, f9, f10⟩ := ca_free hr
  go_wp2_with fail
  obtain ⟨q0, q1, q2, q3, q4, q5, q6, q7, q8, q9, q10⟩ := ca_cells (caPut_at (beginC id done 0 owner) hr)
  unfold caPut at q0 q1 q2 q3 q4 q5 q6 q7 q8 q9 q10
  exact bodyPost_ret (v := .agg #[.int .i64 (beginC id done 0 owner).id, .int .i64 (beginC id done 0 owner).done, .int .i8 (beginC id done 0 owner).op, .int .i64 (beginC id done 0 owner).owner, .int .i64 (beginC id done 0 owner).sock, .slice (beginC id done 0 owner).A (beginC id done 0 owner).n (beginC id done 0 owner).c, .int .i8 (beginC id done 0 owner).st, .int .i64 (beginC id done 0 owner).i, .int .i64 (beginC id done 0 owner).rt, .int .i64 (beginC id done 0 owner).rs, .int .i64 (beginC id done 0 owner).re]) (by simp [results, Try.results7, go_sem, q0, q1, q2, q3, q4, q5, q6, q7, q8, q9, q10]) rfl ⟨rfl, caPut_below _ hb (Nat.le_refl _)⟩
set_option maxRecDepth 100000 in
set_option maxHeartbeats 2000000 in
theorem Offers_any (x : Ca) (L : List Int) (w : World) (hs : Ints w w.heap.size x.A x.n L) (hn : x.n ≤ 1000) : Calls Try.prog 9 #[.agg #[.int .i64 x.id, .int .i64 x.done, .int .i8 x.op, .int .i64 x.owner, .int .i64 x.sock, .slice x.A x.n x.c, .int .i8 x.st, .int .i64 x.i, .int .i64 x.rt, .int .i64 x.rs, .int .i64 x.re]] w fun e w' => CasesPost x L w e w' := by
  have hb := (Below.new_ w (.cells #[.int .i64 x.id, .int .i64 x.done, .int .i8 x.op, .int .i64 x.owner, .int .i64 x.sock, .slice x.A x.n x.c, .int .i8 x.st, .int .i64 x.i, .int .i64 x.rt, .int .i64 x.rs, .int .i64 x.re] 30)).alloc (Nat.le_of_lt (by simp)) (.cells #[.int .i64 x.id, .int .i64 x.done, .int .i8 x.op, .int .i64 x.owner, .int .i64 x.sock, .slice x.A x.n x.c, .int .i8 x.st, .int .i64 x.i, .int .i64 x.rt, .int .i64 x.rs, .int .i64 x.re, .slice none 0 0] 59)
  have hC : Cl ((w.alloc (.cells #[.int .i64 x.id, .int .i64 x.done, .int .i8 x.op, .int .i64 x.owner, .int .i64 x.sock, .slice x.A x.n x.c, .int .i8 x.st, .int .i64 x.i, .int .i64 x.rt, .int .i64 x.rs, .int .i64 x.re] 30)).alloc (.cells #[.int .i64 x.id, .int .i64 x.done, .int .i8 x.op, .int .i64 x.owner, .int .i64 x.sock, .slice x.A x.n x.c, .int .i8 x.st, .int .i64 x.i, .int .i64 x.rt, .int .i64 x.rs, .int .i64 x.re, .slice none 0 0] 59)) (w.heap.size + 1) x none 0 0 := by have := heap_alloc_new (w.alloc (.cells #[.int .i64 x.id, .int .i64 x.done, .int .i8 x.op, .int .i64 x.owner, .int .i64 x.sock, .slice x.A x.n x.c, .int .i8 x.st, .int .i64 x.i, .int .i64 x.rt, .int .i64 x.rs, .int .i64 x.re] 30)) (.cells #[.int .i64 x.id, .int .i64 x.done, .int .i8 x.op, .int .i64 x.owner, .int .i64 x.sock, .slice x.A x.n x.c, .int .i8 x.st, .int .i64 x.i, .int .i64 x.rt, .int .i64 x.rs, .int .i64 x.re, .slice none 0 0] 59); simp only [World.size_alloc] at this; exact this
  go_enter Try.func9, Try.ntmps9
  go_wp2_with fail
  generalize ((w.alloc (.cells #[.int .i64 x.id, .int .i64 x.done, .int .i8 x.op, .int .i64 x.owner, .int .i64 x.sock, .slice x.A x.n x.c, .int .i8 x.st, .int .i64 x.i, .int .i64 x.rt, .int .i64 x.rs, .int .i64 x.re] 30)).alloc (.cells #[.int .i64 x.id, .int .i64 x.done, .int .i8 x.op, .int .i64 x.owner, .int .i64 x.sock, .slice x.A x.n x.c, .int .i8 x.st, .int .i64 x.i, .int .i64 x.rt, .int .i64 x.rs, .int .i64 x.re, .slice none 0 0] 59)) = W at hb hC ⊢
  refine (cases_any _ x _ _ _ L _ hC ((hs.below hb).more hb.size) hn).mono ?_
  rintro e w1 ⟨A', m, c', rfl, hr, hbx⟩
  replace hb := hb.trans (hbx.mono hb.size)
  clear hbx
  go_wp2_with fail
  go_ret
  exact ⟨A', m, c', rfl, hr, hb⟩
def takeM (x : Ca) (L : List Int) (i ms me : Int) : Ca × Bool := if 0 ≤ i ∧ i < (casesL x L).length then goesM x i ms me else (x, false)
def TakePost (y : Ca × Bool) (d : Int) (w : World) (e : Ending) (w' : World) : Prop := ∃ D dn dc, e = .returned (.tuple #[.agg #[.int .i64 y.1.id, .int .i64 y.1.done, .int .i8 y.1.op, .int .i64 y.1.owner, .int .i64 y.1.sock, .slice y.1.A y.1.n y.1.c, .int .i8 y.1.st, .int .i64 y.1.i, .int .i64 y.1.rt, .int .i64 y.1.rs, .int .i64 y.1.re], .slice D dn dc]) ∧ Des w' w'.heap.size D dn (if y.2 then [d] else []) ∧ Below w.heap.size w w'
theorem des_put {w : World} {B g : Nat} {D : Option Addr} {dn : Nat} {l : List Int} {y : Ca} {e : TypeId} {cur : Array Value} (h : Des w B D dn l) (hg : w.heap[g]? = some (.cells cur e (0, 0))) (hD : ∀ b off, D = some ⟨b, off, none⟩ → 0 < dn → b ≠ g) : Des (caPut w g y) B D dn l := by
  refine ⟨h.1, h.2.1, fun h0 h1 => ?_⟩
  obtain ⟨b, off, e1, hb, hc⟩ := h.2.2 h0 h1
  have hne := hD b off e1 h0
  refine ⟨b, off, e1, hb, fun j u hu => ?_⟩
  rw [← hc j u hu]
  have : (caPut w g y).heap[b]? = w.heap[b]? := by unfold caPut; repeat rw [Below.heap_setCell _ _ _ _ hne]
  simp [World.cell?, this]
theorem des_ne {w : World} {B g : Nat} {D : Option Addr} {dn : Nat} {l : List Int} {e : TypeId} (h : Des w B D dn l) (hg : w.heap[g]? = some (.cells #[.int .i64 zeroCa.id, .int .i64 zeroCa.done, .int .i8 zeroCa.op, .int .i64 zeroCa.owner, .int .i64 zeroCa.sock, .slice zeroCa.A zeroCa.n zeroCa.c, .int .i8 zeroCa.st, .int .i64 zeroCa.i, .int .i64 zeroCa.rt, .int .i64 zeroCa.rs, .int .i64 zeroCa.re] e (0, 0))) : ∀ b off, D = some ⟨b, off, none⟩ → 0 < dn → b ≠ g := by
  rintro b off rfl h0 rfl
  obtain ⟨b', off', e1, _, hc⟩ := h.2.2 h0 (by omega)
  injection e1 with e1
  injection e1 with e1 e2
  subst e1 e2
  have hl : 0 < l.length := by rw [h.1]; exact h0
  obtain ⟨d, l', rfl⟩ : ∃ d l', l = d :: l' := by cases l with | nil => simp at hl | cons d l' => exact ⟨d, l', rfl⟩
  have h1 := hc 0 (.int .i8 1) rfl
  rw [cell_of_row w b (off + 0) _ e (0, 0) hg] at h1
  match off, h1 with
  | 0, h => simp at h
  | 1, h => simp at h
  | 2, h => simp [zeroCa] at h
  | 3, h => simp at h
  | 4, h => simp at h
  | 5, h => simp at h
  | 6, h => simp [zeroCa] at h
  | 7, h => simp at h
  | 8, h => simp at h
  | 9, h => simp at h
  | 10, h => simp at h
  | (k + 11), h => simp at h
theorem casesL_le (x : Ca) (L : List Int) : (casesL x L).length ≤ 3 := by
  unfold casesL tokL
  split <;> (try split) <;> (try split) <;> (try split) <;> simp <;> split <;> simp
/-- The client at block g, its deeds; the result's block below. -/
structure TkInv (w : World) (y : Ca × Bool) (d : Int) (D : Option Addr) (dn dc : Nat) (W : World) : Prop where
  cl : Cl W (w.heap.size + 1 + 1 + 1) y.1 D dn dc
  res : W.heap[w.heap.size + 1 + 1]? = some (.cells #[.int .i64 zeroCa.id, .int .i64 zeroCa.done, .int .i8 zeroCa.op, .int .i64 zeroCa.owner, .int .i64 zeroCa.sock, .slice zeroCa.A zeroCa.n zeroCa.c, .int .i8 zeroCa.st, .int .i64 zeroCa.i, .int .i64 zeroCa.rt, .int .i64 zeroCa.rs, .int .i64 zeroCa.re] 30 (0, 0))
  des : Des W W.heap.size D dn (if y.2 then [d] else [])
  below : Below w.heap.size w W
theorem TkInv.new (x : Ca) (mk mf mn ms me : Int) (mt : ByteArray) (d : Int) (w : World) : TkInv w (x, false) d none 0 0 ((((w.alloc (.cells #[.int .i64 x.id, .int .i64 x.done, .int .i8 x.op, .int .i64 x.owner, .int .i64 x.sock, .slice x.A x.n x.c, .int .i8 x.st, .int .i64 x.i, .int .i64 x.rt, .int .i64 x.rs, .int .i64 x.re] 30)).alloc (.cells #[.int .i8 mk, .int .i64 mf, .int .i64 mn, .int .i64 ms, .string mt, .int .i64 me] 38)).alloc (.cells #[.int .i64 0, .int .i64 0, .int .i8 0, .int .i64 0, .int .i64 0, .slice none 0 0, .int .i8 0, .int .i64 0, .int .i64 0, .int .i64 0, .int .i64 0] 30)).alloc (.cells #[.int .i64 x.id, .int .i64 x.done, .int .i8 x.op, .int .i64 x.owner, .int .i64 x.sock, .slice x.A x.n x.c, .int .i8 x.st, .int .i64 x.i, .int .i64 x.rt, .int .i64 x.rs, .int .i64 x.re, .slice none 0 0] 59)) := by
  have h1 := heap_alloc_new (((w.alloc (.cells #[.int .i64 x.id, .int .i64 x.done, .int .i8 x.op, .int .i64 x.owner, .int .i64 x.sock, .slice x.A x.n x.c, .int .i8 x.st, .int .i64 x.i, .int .i64 x.rt, .int .i64 x.rs, .int .i64 x.re] 30)).alloc (.cells #[.int .i8 mk, .int .i64 mf, .int .i64 mn, .int .i64 ms, .string mt, .int .i64 me] 38)).alloc (.cells #[.int .i64 0, .int .i64 0, .int .i8 0, .int .i64 0, .int .i64 0, .slice none 0 0, .int .i8 0, .int .i64 0, .int .i64 0, .int .i64 0, .int .i64 0] 30)) (.cells #[.int .i64 x.id, .int .i64 x.done, .int .i8 x.op, .int .i64 x.owner, .int .i64 x.sock, .slice x.A x.n x.c, .int .i8 x.st, .int .i64 x.i, .int .i64 x.rt, .int .i64 x.rs, .int .i64 x.re, .slice none 0 0] 59)
  have h2 := (Below.heap_alloc (((w.alloc (.cells #[.int .i64 x.id, .int .i64 x.done, .int .i8 x.op, .int .i64 x.owner, .int .i64 x.sock, .slice x.A x.n x.c, .int .i8 x.st, .int .i64 x.i, .int .i64 x.rt, .int .i64 x.rs, .int .i64 x.re] 30)).alloc (.cells #[.int .i8 mk, .int .i64 mf, .int .i64 mn, .int .i64 ms, .string mt, .int .i64 me] 38)).alloc (.cells #[.int .i64 0, .int .i64 0, .int .i8 0, .int .i64 0, .int .i64 0, .slice none 0 0, .int .i8 0, .int .i64 0, .int .i64 0, .int .i64 0, .int .i64 0] 30)) (.cells #[.int .i64 x.id, .int .i64 x.done, .int .i8 x.op, .int .i64 x.owner, .int .i64 x.sock, .slice x.A x.n x.c, .int .i8 x.st, .int .i64 x.i, .int .i64 x.rt, .int .i64 x.rs, .int .i64 x.re, .slice none 0 0] 59) (w.heap.size + 1 + 1) (by first | omega | (simp; done) | (simp; omega))).trans (by have := heap_alloc_new ((w.alloc (.cells #[.int .i64 x.id, .int .i64 x.done, .int .i8 x.op, .int .i64 x.owner, .int .i64 x.sock, .slice x.A x.n x.c, .int .i8 x.st, .int .i64 x.i, .int .i64 x.rt, .int .i64 x.rs, .int .i64 x.re] 30)).alloc (.cells #[.int .i8 mk, .int .i64 mf, .int .i64 mn, .int .i64 ms, .string mt, .int .i64 me] 38)) (.cells #[.int .i64 0, .int .i64 0, .int .i8 0, .int .i64 0, .int .i64 0, .slice none 0 0, .int .i8 0, .int .i64 0, .int .i64 0, .int .i64 0, .int .i64 0] 30); simp only [World.size_alloc] at this; exact this)
  simp only [World.size_alloc] at h1
  exact ⟨h1, h2, Recs.nil_ _ _ _, (((Below.new_ w _).alloc (by first | omega | (simp; done) | (simp; omega)) _).alloc (by first | omega | (simp; done) | (simp; omega)) _).alloc (by first | omega | (simp; done) | (simp; omega)) _⟩
end Go.Proofs.Ytamfbbmkkhcnpaa
