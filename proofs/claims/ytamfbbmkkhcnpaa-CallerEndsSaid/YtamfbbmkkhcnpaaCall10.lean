/-
  caller's Same of a caller and itself; caller's Close. Conditions: bounds are premises.
-/
import Derived.Test.YtamfbbmkkhcnpaaCall9
namespace Go.Proofs.Ytamfbbmkkhcnpaa
open Go.RowKit

theorem h_new (w : World) (o : Obj) (g : Nat) (hg : g = w.heap.size) : (w.alloc o).heap[g]? = some o := by subst hg; exact heap_alloc_new w o
theorem h_old (w : World) (o : Obj) (g : Nat) (hg : g < w.heap.size) : (w.alloc o).heap[g]? = w.heap[g]? := Below.heap_alloc w o g hg
theorem h_drew (w : World) (g : Nat) : w.drew.heap[g]? = w.heap[g]? := rfl
theorem same_mem (x : Ca) (w : World) : ∃ W : World, ((((w.alloc (.cells #[.int .i64 x.id, .int .i64 x.done, .int .i8 x.op, .int .i64 x.owner, .int .i64 x.sock, .slice x.A x.n x.c, .int .i8 x.st, .int .i64 x.i, .int .i64 x.rt, .int .i64 x.rs, .int .i64 x.re] 30)).alloc (.cells #[.int .i64 x.id, .int .i64 x.done, .int .i8 x.op, .int .i64 x.owner, .int .i64 x.sock, .slice x.A x.n x.c, .int .i8 x.st, .int .i64 x.i, .int .i64 x.rt, .int .i64 x.rs, .int .i64 x.re] 30)).alloc (.cells #[.int .i64 x.id, .int .i64 x.done, .int .i8 x.op, .int .i64 x.owner, .int .i64 x.sock, .slice none 0 0, .int .i8 x.st, .int .i64 x.i, .int .i64 x.rt, .int .i64 x.rs, .int .i64 x.re] 30)).alloc (.cells #[.int .i64 x.id, .int .i64 x.done, .int .i8 x.op, .int .i64 x.owner, .int .i64 x.sock, .slice none 0 0, .int .i8 x.st, .int .i64 x.i, .int .i64 x.rt, .int .i64 x.rs, .int .i64 x.re] 30)).drew = W ∧ W.heap[w.heap.size]? = some (.cells #[.int .i64 x.id, .int .i64 x.done, .int .i8 x.op, .int .i64 x.owner, .int .i64 x.sock, .slice x.A x.n x.c, .int .i8 x.st, .int .i64 x.i, .int .i64 x.rt, .int .i64 x.rs, .int .i64 x.re] 30 (0, 0)) ∧ W.heap[w.heap.size + 1]? = some (.cells #[.int .i64 x.id, .int .i64 x.done, .int .i8 x.op, .int .i64 x.owner, .int .i64 x.sock, .slice x.A x.n x.c, .int .i8 x.st, .int .i64 x.i, .int .i64 x.rt, .int .i64 x.rs, .int .i64 x.re] 30 (0, 0)) ∧ W.heap[w.heap.size + 1 + 1]? = some (.cells #[.int .i64 x.id, .int .i64 x.done, .int .i8 x.op, .int .i64 x.owner, .int .i64 x.sock, .slice none 0 0, .int .i8 x.st, .int .i64 x.i, .int .i64 x.rt, .int .i64 x.rs, .int .i64 x.re] 30 (0, 0)) ∧ W.heap[w.heap.size + 1 + 1 + 1]? = some (.cells #[.int .i64 x.id, .int .i64 x.done, .int .i8 x.op, .int .i64 x.owner, .int .i64 x.sock, .slice none 0 0, .int .i8 x.st, .int .i64 x.i, .int .i64 x.rt, .int .i64 x.rs, .int .i64 x.re] 30 (0, 0)) ∧ Below w.heap.size w W := by
  refine ⟨_, rfl, ?_, ?_, ?_, ?_, ((((Below.new_ _ _).alloc (by first | omega | (simp; done) | (simp; omega)) _).alloc (by first | omega | (simp; done) | (simp; omega)) _).alloc (by first | omega | (simp; done) | (simp; omega)) _).drew⟩
  · rw [h_drew, h_old _ _ _ (by first | omega | (simp; done) | (simp; omega)), h_old _ _ _ (by first | omega | (simp; done) | (simp; omega)), h_old _ _ _ (by first | omega | (simp; done) | (simp; omega)), h_new _ _ _ rfl]
  · rw [h_drew, h_old _ _ _ (by first | omega | (simp; done) | (simp; omega)), h_old _ _ _ (by first | omega | (simp; done) | (simp; omega)), h_new _ _ _ (by first | omega | (simp; done) | (simp; omega))]
  · rw [h_drew, h_old _ _ _ (by first | omega | (simp; done) | (simp; omega)), h_new _ _ _ (by first | omega | (simp; done) | (simp; omega))]
  · rw [h_drew, h_new _ _ _ (by first | omega | (simp; done) | (simp; omega))]
set_option maxRecDepth 100000 in
set_option maxHeartbeats 4000000 in
theorem Same_self (x : Ca) (L : List Int) (w : World) (hs : Ints w w.heap.size x.A x.n L) (hn : x.n ≤ 1000) :
    Calls Try.prog 13 #[.agg #[.int .i64 x.id, .int .i64 x.done, .int .i8 x.op, .int .i64 x.owner, .int .i64 x.sock, .slice x.A x.n x.c, .int .i8 x.st, .int .i64 x.i, .int .i64 x.rt, .int .i64 x.rs, .int .i64 x.re], .agg #[.int .i64 x.id, .int .i64 x.done, .int .i8 x.op, .int .i64 x.owner, .int .i64 x.sock, .slice x.A x.n x.c, .int .i8 x.st, .int .i64 x.i, .int .i64 x.rt, .int .i64 x.rs, .int .i64 x.re]] w fun e w' => e = .returned (.bool true) ∧ Below w.heap.size w w' := by
  have hb := ((Below.new_ w (.cells #[.int .i64 x.id, .int .i64 x.done, .int .i8 x.op, .int .i64 x.owner, .int .i64 x.sock, .slice x.A x.n x.c, .int .i8 x.st, .int .i64 x.i, .int .i64 x.rt, .int .i64 x.rs, .int .i64 x.re] 30)).alloc (Nat.le_of_lt (by simp)) (.cells #[.int .i64 x.id, .int .i64 x.done, .int .i8 x.op, .int .i64 x.owner, .int .i64 x.sock, .slice x.A x.n x.c, .int .i8 x.st, .int .i64 x.i, .int .i64 x.rt, .int .i64 x.rs, .int .i64 x.re] 30))
  go_enter Try.func13, Try.ntmps13
  go_upto_region 1 with fail
  go_region
  all_goals go_upto_region 3 with fail
  all_goals
    obtain ⟨W, hW, m0, m1, m2, m3, hbW⟩ := same_mem x w
    rw [hW]
    clear hW hb
    have l1 : w.heap.size < W.heap.size := (Array.getElem?_eq_some_iff.1 m0).1
    have l2 : w.heap.size + 1 < W.heap.size := (Array.getElem?_eq_some_iff.1 m1).1
    have l3 : w.heap.size + 1 + 1 < W.heap.size := (Array.getElem?_eq_some_iff.1 m2).1
    have l4 : w.heap.size + 1 + 1 + 1 < W.heap.size := (Array.getElem?_eq_some_iff.1 m3).1
    have c0 : W.cell? ⟨w.heap.size, 5, none⟩ = some (.slice x.A x.n x.c) := (ca_cells (x := x) m0).2.2.2.2.2.1
    have c1 : W.cell? ⟨w.heap.size + 1, 5, none⟩ = some (.slice x.A x.n x.c) := (ca_cells (x := x) m1).2.2.2.2.2.1
    have hs1 := (hs.below hbW).more hbW.size
    go_wp2_with fail
    refine (EqualI_any _ _ _ _ _ _ _ _ L L _ hs1 hs1 (by omega) (by omega)).mono ?_
    rintro e w2 ⟨rfl, hb2⟩
    have n2 := (hb2.block _ l3).trans m2
    have n3 := (hb2.block _ l4).trans m3
    have hb3 := hbW.trans (hb2.mono hbW.size)
    obtain ⟨a0, a1, a2, a3, a4, a5, a6, a7, a8, a9, a10⟩ := ca_cells (x := { x with A := none, n := 0, c := 0 }) n2
    obtain ⟨b0, b1, b2, b3, b4, b5, b6, b7, b8, b9, b10⟩ := ca_cells (x := { x with A := none, n := 0, c := 0 }) n3
    dsimp only at a0 a1 a2 a3 a4 a5 a6 a7 a8 a9 a10 b0 b1 b2 b3 b4 b5 b6 b7 b8 b9 b10
    have hLL : sameL L L = true := by simp [sameL]
    rw [hLL]
    clear m0 m1 m2 m3 c0 c1 hLL hb2 n2 n3
    go_wp2_with fail
    go_ret
    exact ⟨rfl, hb3⟩
end Go.Proofs.Ytamfbbmkkhcnpaa
