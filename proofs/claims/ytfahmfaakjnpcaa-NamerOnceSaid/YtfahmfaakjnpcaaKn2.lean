/-
  What cache.Get, Fresh, Until, Entry, May compute. Conditions: the slice arguments read as lists of at most 1000.
-/
import Derived.Test.YtfahmfaakjnpcaaKn
import Derived.Test.YtfahmfaakjnpcaaLaws
import Derived.Deep.AppendLies
namespace Go.Proofs.Ytfahmfaakjnpcaa
set_option linter.unusedVariables false
set_option linter.unusedSimpArgs false
open Go.RowKit Go.Shelf

def putKn (w : World) (g : Nat) (y : Kn) : World := (((w.setCell ⟨g, 0, none⟩ (.string y.1)).setCell ⟨g, 1, none⟩ (.string y.2.1)).setCell ⟨g, 2, none⟩ (.int .i64 y.2.2.1)).setCell ⟨g, 3, none⟩ (.int .i64 y.2.2.2)
theorem putKn_at {w : World} {g : Nat} {x : Kn} {t : TypeId} (y : Kn) (h : w.heap[g]? = some (.cells #[.string x.1, .string x.2.1, .int .i64 x.2.2.1, .int .i64 x.2.2.2] t (0, 0))) : (putKn w g y).heap[g]? = some (.cells #[.string y.1, .string y.2.1, .int .i64 y.2.2.1, .int .i64 y.2.2.2] t (0, 0)) := by
  simp [putKn, World.setCell, Array.getElem?_modify, h]
theorem putKn_below {B : Nat} {w0 w : World} {g : Nat} (y : Kn) (h : Below B w0 w) (hg : B ≤ g) : Below B w0 (putKn w g y) :=
  (((h.setCell (p := ⟨g, 0, none⟩) hg _).setCell (p := ⟨g, 1, none⟩) hg _).setCell (p := ⟨g, 2, none⟩) hg _).setCell (p := ⟨g, 3, none⟩) hg _
def gotK : Option Kn → Kn
  | some k => k
  | none => zeroKn
theorem getK_none {l : List Kn} {s : ByteArray} (now : Int) (h : placeK l s = none) : getK l s now = none := by unfold getK; rw [h]
theorem getK_some {l : List Kn} {s : ByteArray} {i : Nat} {x : Kn} (now : Int) (h : placeK l s = some i) (hx : l[i]? = some x) : getK l s now = if freshB now x = true then some x else none := by unfold getK; rw [h]; simp only [hx]
theorem placeK_lt {l : List Kn} {s : ByteArray} {i : Nat} (h : placeK l s = some i) : i < l.length := by
  unfold placeK at h
  exact (List.findIdx?_eq_some_iff_getElem.1 h).1
set_option maxRecDepth 100000 in
set_option maxHeartbeats 3000000 in
theorem GetKn_any (A : Option Addr) (n c : Nat) (l : List Kn) (s : ByteArray) (now : Int) (w : World) (hl : Kns w w.heap.size A n l) (hn : n ≤ 1000) :
    Calls Try.prog 43 #[.slice A n c, .string s, .int .i64 now] w fun e w' => e = .returned (.tuple #[valKn (gotK (getK l s now)), .bool (getK l s now).isSome]) ∧ Below w.heap.size w w' := by
  have HL := Lib.hid hl.len
  go_enter Try.func43, Try.ntmps43
  go_wp2_with fail
  refine (named_any _ _).mono ?_
  rintro e w1 ⟨g, rfl, hg, hb1⟩
  have hl0 := (hl.alloc (Nat.le_refl _) (.cells #[.string zeroKn.1, .string zeroKn.2.1, .int .i64 zeroKn.2.2.1, .int .i64 zeroKn.2.2.2] 110)).more (B' := w.heap.size + 1) (by first | omega | (simp; done) | (simp; omega))
  have hl1 := (hl0.below' hb1 (by first | omega | (simp; done) | (simp; omega))).more (B' := w1.heap.size) (by have := hb1.size; simpa using this)
  have hz1 : w1.heap[w.heap.size]? = some (.cells #[.string zeroKn.1, .string zeroKn.2.1, .int .i64 zeroKn.2.2.1, .int .i64 zeroKn.2.2.2] 110 (0, 0)) := (hb1.block w.heap.size (by simp)).trans (heap_alloc_new w _)
  have hbw1 := (Below.new_ w (.cells #[.string zeroKn.1, .string zeroKn.2.1, .int .i64 zeroKn.2.2.1, .int .i64 zeroKn.2.2.2] 110)).trans (hb1.mono (by first | omega | (simp; done) | (simp; omega)))
  have lg := block_lt_of_cell hg
  clear hb1 hl0
  go_wp2_with fail
  refine (firstKn_any 72 eg_named #[.pointer (some ⟨g, 0, none⟩)] (fun k => sEq k.1 s) _ _ _ w1.heap.size l _ hl1 (Nat.le_refl _) (by omega) (fun x wx _ hbx => namedC_any x g s wx ((hbx.cell (p := ⟨g, 0, none⟩) lg).trans hg))).mono ?_
  rintro e w2 ⟨rfl, hb2⟩
  have hl2 := (hl1.below hb2).more hb2.size
  have hz2 := (hb2.block w.heap.size (by have := hbw1.size; have := block_lt_of_cell (kn_cells hz1).1; exact this)).trans hz1
  have hbw2 := hbw1.trans (hb2.mono hbw1.size)
  have lz : w.heap.size < w2.heap.size := block_lt_of_cell (kn_cells hz2).1
  clear hb2 hl1 hz1 hbw1 lg hg
  obtain ⟨z0, z1, z2, z3⟩ := kn_cells hz2
  obtain ⟨f0, f1, f2, f3⟩ := kn_free hz2
  cases hp : placeK l s with
  | none =>
    have hi : idxK l (fun k => sEq k.1 s) = -1 := by unfold idxK; unfold placeK at hp; rw [hp]
    have HQ := Lib.hid (getK_none now hp)
    rw [hi]
    clear hp hi
    go_wp2_with fail
    go_quiet (fail)
    obtain ⟨q0, q1, q2, q3⟩ := kn_cells (putKn_at (w := w2.drewN nq) zeroKn hz2)
    unfold putKn at q0 q1 q2 q3
    simp only [zeroKn] at q0 q1 q2 q3
    go_wp2_with fail
    exact bodyPost_ret (v := .tuple #[valKn zeroKn, .bool false]) (by simp [results, Try.results43, go_sem, valKn, zeroKn, q0, q1, q2, q3]) rfl ⟨by rw [HQ.out]; rfl, by have := putKn_below zeroKn hbw2 (Nat.le_refl _); exact ⟨this.os, this.tape, this.output, this.size, this.block⟩⟩
  | some i =>
    have hi : idxK l (fun k => sEq k.1 s) = (i : Int) := by unfold idxK; unfold placeK at hp; rw [hp]
    have hlt : i < n := by rw [← HL.out]; exact placeK_lt hp
    obtain ⟨b, off, x, rfl, hbb, hx, hc0, hc1, hc2, hc3⟩ := Kns.cells hl2 hlt
    have HQ := Lib.hid (getK_some now hp hx.out)
    rw [hi]
    clear hp hi
    go_upto_region 2 with fail
    have hS : Below w2.heap.size w2 w2.drew := (Below.refl _ _).drew
    have i0 : (0 : Int) ≤ (i : Int) := by omega
    have i1 : (i : Int) < (n : Int) := by omega
    cases hf : freshB now x
    · have HF := Lib.hid hf
      rw [hf] at HQ
      clear hf
      refine wp_region_held_drew (S := (fun wx => Below w2.heap.size w2 wx)) (by kernel_rfl) ?_ (fun hHeld => ?_)
      · (try dsimp only); first | done | (exact hS)
      first
        | (refine wpAnyH_take (i := 0) (v := ?_) rfl (by kernel_rfl) (by kernel_rfl) (by kernel_rfl) (fun _ _ _ h => h) (Or.inl ⟨by rfl, ?_⟩) hHeld ?_; rotate_left; (intro wq hSw; (try dsimp only at hSw); go_simp; done))
        | (refine wpAnyH_take (i := 0) (v := ?_) rfl (by kernel_rfl) (by kernel_rfl) (by kernel_rfl) (fun _ _ _ h => h) (Or.inl ⟨by rfl, ?_⟩) hHeld ?_; rotate_left; (intro wq hSw; (try dsimp only at hSw); go_simp; with_reducible rfl))
        | refine wpAnyH_take (i := 0) (v := undef) rfl (by kernel_rfl) (by kernel_rfl) (by kernel_rfl) (fun _ _ _ h => h) (Or.inr ⟨by rfl, rfl⟩) hHeld ?_
      try simp only [Act.put, List.getElem_toArray, List.getElem_cons_succ, List.getElem_cons_zero, List.setIfInBounds_toArray, List.set_cons_zero, List.set_cons_succ]
      first
        | (refine wpAnyH_take (i := 1) (v := ?_) rfl (by kernel_rfl) (by kernel_rfl) (by kernel_rfl) (fun _ _ _ h => h) (Or.inl ⟨by rfl, ?_⟩) hHeld ?_; rotate_left; (intro wq hSw; (try dsimp only at hSw); go_simp; done))
        | (refine wpAnyH_take (i := 1) (v := ?_) rfl (by kernel_rfl) (by kernel_rfl) (by kernel_rfl) (fun _ _ _ h => h) (Or.inl ⟨by rfl, ?_⟩) hHeld ?_; rotate_left; (intro wq hSw; (try dsimp only at hSw); go_simp; with_reducible rfl))
        | refine wpAnyH_take (i := 1) (v := undef) rfl (by kernel_rfl) (by kernel_rfl) (by kernel_rfl) (fun _ _ _ h => h) (Or.inr ⟨by rfl, rfl⟩) hHeld ?_
      try simp only [Act.put, List.getElem_toArray, List.getElem_cons_succ, List.getElem_cons_zero, List.setIfInBounds_toArray, List.set_cons_zero, List.set_cons_succ]
      first
        | (refine wpAnyH_take (i := 2) (v := ?_) rfl (by kernel_rfl) (by kernel_rfl) (by kernel_rfl) (fun _ _ _ h => h) (Or.inl ⟨by rfl, ?_⟩) hHeld ?_; rotate_left; (intro wq hSw; (try dsimp only at hSw); go_simp; done))
        | (refine wpAnyH_take (i := 2) (v := ?_) rfl (by kernel_rfl) (by kernel_rfl) (by kernel_rfl) (fun _ _ _ h => h) (Or.inl ⟨by rfl, ?_⟩) hHeld ?_; rotate_left; (intro wq hSw; (try dsimp only at hSw); go_simp; with_reducible rfl))
        | refine wpAnyH_take (i := 2) (v := undef) rfl (by kernel_rfl) (by kernel_rfl) (by kernel_rfl) (fun _ _ _ h => h) (Or.inr ⟨by rfl, rfl⟩) hHeld ?_
      try simp only [Act.put, List.getElem_toArray, List.getElem_cons_succ, List.getElem_cons_zero, List.setIfInBounds_toArray, List.set_cons_zero, List.set_cons_succ]
      first
        | (refine wpAnyH_take (i := 3) (v := ?_) rfl (by kernel_rfl) (by kernel_rfl) (by kernel_rfl) (fun _ _ _ h => h) (Or.inl ⟨by rfl, ?_⟩) hHeld ?_; rotate_left; (intro wq hSw; (try dsimp only at hSw); go_simp; done))
        | (refine wpAnyH_take (i := 3) (v := ?_) rfl (by kernel_rfl) (by kernel_rfl) (by kernel_rfl) (fun _ _ _ h => h) (Or.inl ⟨by rfl, ?_⟩) hHeld ?_; rotate_left; (intro wq hSw; (try dsimp only at hSw); go_simp; with_reducible rfl))
        | refine wpAnyH_take (i := 3) (v := undef) rfl (by kernel_rfl) (by kernel_rfl) (by kernel_rfl) (fun _ _ _ h => h) (Or.inr ⟨by rfl, rfl⟩) hHeld ?_
      try simp only [Act.put, List.getElem_toArray, List.getElem_cons_succ, List.getElem_cons_zero, List.setIfInBounds_toArray, List.set_cons_zero, List.set_cons_succ]
      first
        | (refine wpAnyH_take (i := 5) (v := ?_) rfl (by kernel_rfl) (by kernel_rfl) (by kernel_rfl) (fun _ _ _ h => h) (Or.inl ⟨by rfl, ?_⟩) hHeld ?_; rotate_left; (intro wq hSw; (try dsimp only at hSw); go_simp; done))
        | (refine wpAnyH_take (i := 5) (v := ?_) rfl (by kernel_rfl) (by kernel_rfl) (by kernel_rfl) (fun _ _ _ h => h) (Or.inl ⟨by rfl, ?_⟩) hHeld ?_; rotate_left; (intro wq hSw; (try dsimp only at hSw); go_simp; with_reducible rfl))
        | refine wpAnyH_take (i := 5) (v := undef) rfl (by kernel_rfl) (by kernel_rfl) (by kernel_rfl) (fun _ _ _ h => h) (Or.inr ⟨by rfl, rfl⟩) hHeld ?_
      try simp only [Act.put, List.getElem_toArray, List.getElem_cons_succ, List.getElem_cons_zero, List.setIfInBounds_toArray, List.set_cons_zero, List.set_cons_succ]
      first
        | (refine wpAnyH_take (i := 6) (v := ?_) rfl (by kernel_rfl) (by kernel_rfl) (by kernel_rfl) (fun _ _ _ h => h) (Or.inl ⟨by rfl, ?_⟩) hHeld ?_; rotate_left; (intro wq hSw; (try dsimp only at hSw); go_simp; done))
        | (refine wpAnyH_take (i := 6) (v := ?_) rfl (by kernel_rfl) (by kernel_rfl) (by kernel_rfl) (fun _ _ _ h => h) (Or.inl ⟨by rfl, ?_⟩) hHeld ?_; rotate_left; (intro wq hSw; (try dsimp only at hSw); go_simp; with_reducible rfl))
        | refine wpAnyH_take (i := 6) (v := undef) rfl (by kernel_rfl) (by kernel_rfl) (by kernel_rfl) (fun _ _ _ h => h) (Or.inr ⟨by rfl, rfl⟩) hHeld ?_
      try simp only [Act.put, List.getElem_toArray, List.getElem_cons_succ, List.getElem_cons_zero, List.setIfInBounds_toArray, List.set_cons_zero, List.set_cons_succ]
      first
        | (refine wpAnyH_take (i := 7) (v := ?_) rfl (by kernel_rfl) (by kernel_rfl) (by kernel_rfl) (fun _ _ _ h => h) (Or.inl ⟨by rfl, ?_⟩) hHeld ?_; rotate_left; (intro wq hSw; (try dsimp only at hSw); go_simp; done))
        | (refine wpAnyH_take (i := 7) (v := ?_) rfl (by kernel_rfl) (by kernel_rfl) (by kernel_rfl) (fun _ _ _ h => h) (Or.inl ⟨by rfl, ?_⟩) hHeld ?_; rotate_left; (intro wq hSw; (try dsimp only at hSw); go_simp; with_reducible rfl))
        | refine wpAnyH_take (i := 7) (v := undef) rfl (by kernel_rfl) (by kernel_rfl) (by kernel_rfl) (fun _ _ _ h => h) (Or.inr ⟨by rfl, rfl⟩) hHeld ?_
      try simp only [Act.put, List.getElem_toArray, List.getElem_cons_succ, List.getElem_cons_zero, List.setIfInBounds_toArray, List.set_cons_zero, List.set_cons_succ]
      first
        | (refine wpAnyH_take (i := 8) (v := ?_) rfl (by kernel_rfl) (by kernel_rfl) (by kernel_rfl) (fun _ _ _ h => h) (Or.inl ⟨by rfl, ?_⟩) hHeld ?_; rotate_left; (intro wq hSw; (try dsimp only at hSw); have v0 := (hSw.cell (p := ⟨b, off + i * 4, none⟩) hbb).trans hc0; have v1 := (hSw.cell (p := ⟨b, off + i * 4 + 1, none⟩) hbb).trans hc1; have v2 := (hSw.cell (p := ⟨b, off + i * 4 + 2, none⟩) hbb).trans hc2; have v3 := (hSw.cell (p := ⟨b, off + i * 4 + 3, none⟩) hbb).trans hc3; go_simp; done))
        | (refine wpAnyH_take (i := 8) (v := ?_) rfl (by kernel_rfl) (by kernel_rfl) (by kernel_rfl) (fun _ _ _ h => h) (Or.inl ⟨by rfl, ?_⟩) hHeld ?_; rotate_left; (intro wq hSw; (try dsimp only at hSw); have v0 := (hSw.cell (p := ⟨b, off + i * 4, none⟩) hbb).trans hc0; have v1 := (hSw.cell (p := ⟨b, off + i * 4 + 1, none⟩) hbb).trans hc1; have v2 := (hSw.cell (p := ⟨b, off + i * 4 + 2, none⟩) hbb).trans hc2; have v3 := (hSw.cell (p := ⟨b, off + i * 4 + 3, none⟩) hbb).trans hc3; go_simp; with_reducible rfl))
        | refine wpAnyH_take (i := 8) (v := undef) rfl (by kernel_rfl) (by kernel_rfl) (by kernel_rfl) (fun _ _ _ h => h) (Or.inr ⟨by rfl, rfl⟩) hHeld ?_
      try simp only [Act.put, List.getElem_toArray, List.getElem_cons_succ, List.getElem_cons_zero, List.setIfInBounds_toArray, List.set_cons_zero, List.set_cons_succ]
      refine wpAnyH_ready (rs := [4]) (by kernel_rfl) (by simp) ?_
      refine AllReadyH.cons rfl (fun K hK => ?_) AllReadyH.nil
      go_simp; go_at_call 63; refine (lives_any _ _).mono ?_; rintro e wx ⟨g2, rfl, hg2, hbx⟩; replace hS := hS.trans (hbx.mono hS.size); clear hbx; try go_wp2_with fail
      refine hK.out _ _ ?_ (fun hHeld => ?_)
      · (try dsimp only); first | done | (exact hS)
      clear hK K
      try simp only [Act.put, List.getElem_toArray, List.getElem_cons_succ, List.getElem_cons_zero, List.setIfInBounds_toArray, List.set_cons_zero, List.set_cons_succ]
      refine wpAnyH_ready (rs := [9]) (by kernel_rfl) (by simp) ?_
      refine AllReadyH.cons rfl (fun K hK => ?_) AllReadyH.nil
      go_simp; refine (livesC_any x _ now _ hg2).mono ?_; rw [HF.out]; rintro e wx ⟨rfl, hbx⟩; replace hS := hS.trans (hbx.mono hS.size); clear hbx; try go_wp2_with fail
      refine hK.out _ _ ?_ (fun hHeld => ?_)
      · (try dsimp only); first | done | (exact hS)
      clear hK K
      try simp only [Act.put, List.getElem_toArray, List.getElem_cons_succ, List.getElem_cons_zero, List.setIfInBounds_toArray, List.set_cons_zero, List.set_cons_succ]
      first
        | (refine wpAnyH_take (i := 10) (v := ?_) rfl (by kernel_rfl) (by kernel_rfl) (by kernel_rfl) (fun _ _ _ h => h) (Or.inl ⟨by rfl, ?_⟩) hHeld ?_; rotate_left; (intro wq hSw; (try dsimp only at hSw); go_simp; done))
        | (refine wpAnyH_take (i := 10) (v := ?_) rfl (by kernel_rfl) (by kernel_rfl) (by kernel_rfl) (fun _ _ _ h => h) (Or.inl ⟨by rfl, ?_⟩) hHeld ?_; rotate_left; (intro wq hSw; (try dsimp only at hSw); go_simp; with_reducible rfl))
        | refine wpAnyH_take (i := 10) (v := undef) rfl (by kernel_rfl) (by kernel_rfl) (by kernel_rfl) (fun _ _ _ h => h) (Or.inr ⟨by rfl, rfl⟩) hHeld ?_
      try simp only [Act.put, List.getElem_toArray, List.getElem_cons_succ, List.getElem_cons_zero, List.setIfInBounds_toArray, List.set_cons_zero, List.set_cons_succ]
      refine wpAnyH_done (by kernel_rfl) ?_ _
      (have hz3 := (hS.block _ lz).trans hz2; clear hz2; obtain ⟨y0, y1, y2, y3⟩ := kn_cells hz3; obtain ⟨x0, x1, x2, x3⟩ := kn_free hz3; go_wp2_with fail; obtain ⟨q0, q1, q2, q3⟩ := kn_cells (putKn_at zeroKn hz3); unfold putKn at q0 q1 q2 q3; simp only [zeroKn] at q0 q1 q2 q3; exact bodyPost_ret (v := .tuple #[valKn zeroKn, .bool false]) (by simp [results, Try.results43, go_sem, valKn, zeroKn, q0, q1, q2, q3]) rfl ⟨by rw [HQ.out]; rfl, putKn_below zeroKn (hbw2.trans (hS.mono hbw2.size)) (Nat.le_refl _)⟩)
    · have HF := Lib.hid hf
      rw [hf] at HQ
      clear hf
      refine wp_region_held_drew (S := (fun wx => Below w2.heap.size w2 wx)) (by kernel_rfl) ?_ (fun hHeld => ?_)
      · (try dsimp only); first | done | (exact hS)
      first
        | (refine wpAnyH_take (i := 0) (v := ?_) rfl (by kernel_rfl) (by kernel_rfl) (by kernel_rfl) (fun _ _ _ h => h) (Or.inl ⟨by rfl, ?_⟩) hHeld ?_; rotate_left; (intro wq hSw; (try dsimp only at hSw); go_simp; done))
        | (refine wpAnyH_take (i := 0) (v := ?_) rfl (by kernel_rfl) (by kernel_rfl) (by kernel_rfl) (fun _ _ _ h => h) (Or.inl ⟨by rfl, ?_⟩) hHeld ?_; rotate_left; (intro wq hSw; (try dsimp only at hSw); go_simp; with_reducible rfl))
        | refine wpAnyH_take (i := 0) (v := undef) rfl (by kernel_rfl) (by kernel_rfl) (by kernel_rfl) (fun _ _ _ h => h) (Or.inr ⟨by rfl, rfl⟩) hHeld ?_
      try simp only [Act.put, List.getElem_toArray, List.getElem_cons_succ, List.getElem_cons_zero, List.setIfInBounds_toArray, List.set_cons_zero, List.set_cons_succ]
      first
        | (refine wpAnyH_take (i := 1) (v := ?_) rfl (by kernel_rfl) (by kernel_rfl) (by kernel_rfl) (fun _ _ _ h => h) (Or.inl ⟨by rfl, ?_⟩) hHeld ?_; rotate_left; (intro wq hSw; (try dsimp only at hSw); go_simp; done))
        | (refine wpAnyH_take (i := 1) (v := ?_) rfl (by kernel_rfl) (by kernel_rfl) (by kernel_rfl) (fun _ _ _ h => h) (Or.inl ⟨by rfl, ?_⟩) hHeld ?_; rotate_left; (intro wq hSw; (try dsimp only at hSw); go_simp; with_reducible rfl))
        | refine wpAnyH_take (i := 1) (v := undef) rfl (by kernel_rfl) (by kernel_rfl) (by kernel_rfl) (fun _ _ _ h => h) (Or.inr ⟨by rfl, rfl⟩) hHeld ?_
      try simp only [Act.put, List.getElem_toArray, List.getElem_cons_succ, List.getElem_cons_zero, List.setIfInBounds_toArray, List.set_cons_zero, List.set_cons_succ]
      first
        | (refine wpAnyH_take (i := 2) (v := ?_) rfl (by kernel_rfl) (by kernel_rfl) (by kernel_rfl) (fun _ _ _ h => h) (Or.inl ⟨by rfl, ?_⟩) hHeld ?_; rotate_left; (intro wq hSw; (try dsimp only at hSw); go_simp; done))
        | (refine wpAnyH_take (i := 2) (v := ?_) rfl (by kernel_rfl) (by kernel_rfl) (by kernel_rfl) (fun _ _ _ h => h) (Or.inl ⟨by rfl, ?_⟩) hHeld ?_; rotate_left; (intro wq hSw; (try dsimp only at hSw); go_simp; with_reducible rfl))
        | refine wpAnyH_take (i := 2) (v := undef) rfl (by kernel_rfl) (by kernel_rfl) (by kernel_rfl) (fun _ _ _ h => h) (Or.inr ⟨by rfl, rfl⟩) hHeld ?_
      try simp only [Act.put, List.getElem_toArray, List.getElem_cons_succ, List.getElem_cons_zero, List.setIfInBounds_toArray, List.set_cons_zero, List.set_cons_succ]
      first
        | (refine wpAnyH_take (i := 3) (v := ?_) rfl (by kernel_rfl) (by kernel_rfl) (by kernel_rfl) (fun _ _ _ h => h) (Or.inl ⟨by rfl, ?_⟩) hHeld ?_; rotate_left; (intro wq hSw; (try dsimp only at hSw); go_simp; done))
        | (refine wpAnyH_take (i := 3) (v := ?_) rfl (by kernel_rfl) (by kernel_rfl) (by kernel_rfl) (fun _ _ _ h => h) (Or.inl ⟨by rfl, ?_⟩) hHeld ?_; rotate_left; (intro wq hSw; (try dsimp only at hSw); go_simp; with_reducible rfl))
        | refine wpAnyH_take (i := 3) (v := undef) rfl (by kernel_rfl) (by kernel_rfl) (by kernel_rfl) (fun _ _ _ h => h) (Or.inr ⟨by rfl, rfl⟩) hHeld ?_
      try simp only [Act.put, List.getElem_toArray, List.getElem_cons_succ, List.getElem_cons_zero, List.setIfInBounds_toArray, List.set_cons_zero, List.set_cons_succ]
      first
        | (refine wpAnyH_take (i := 5) (v := ?_) rfl (by kernel_rfl) (by kernel_rfl) (by kernel_rfl) (fun _ _ _ h => h) (Or.inl ⟨by rfl, ?_⟩) hHeld ?_; rotate_left; (intro wq hSw; (try dsimp only at hSw); go_simp; done))
        | (refine wpAnyH_take (i := 5) (v := ?_) rfl (by kernel_rfl) (by kernel_rfl) (by kernel_rfl) (fun _ _ _ h => h) (Or.inl ⟨by rfl, ?_⟩) hHeld ?_; rotate_left; (intro wq hSw; (try dsimp only at hSw); go_simp; with_reducible rfl))
        | refine wpAnyH_take (i := 5) (v := undef) rfl (by kernel_rfl) (by kernel_rfl) (by kernel_rfl) (fun _ _ _ h => h) (Or.inr ⟨by rfl, rfl⟩) hHeld ?_
      try simp only [Act.put, List.getElem_toArray, List.getElem_cons_succ, List.getElem_cons_zero, List.setIfInBounds_toArray, List.set_cons_zero, List.set_cons_succ]
      first
        | (refine wpAnyH_take (i := 6) (v := ?_) rfl (by kernel_rfl) (by kernel_rfl) (by kernel_rfl) (fun _ _ _ h => h) (Or.inl ⟨by rfl, ?_⟩) hHeld ?_; rotate_left; (intro wq hSw; (try dsimp only at hSw); go_simp; done))
        | (refine wpAnyH_take (i := 6) (v := ?_) rfl (by kernel_rfl) (by kernel_rfl) (by kernel_rfl) (fun _ _ _ h => h) (Or.inl ⟨by rfl, ?_⟩) hHeld ?_; rotate_left; (intro wq hSw; (try dsimp only at hSw); go_simp; with_reducible rfl))
        | refine wpAnyH_take (i := 6) (v := undef) rfl (by kernel_rfl) (by kernel_rfl) (by kernel_rfl) (fun _ _ _ h => h) (Or.inr ⟨by rfl, rfl⟩) hHeld ?_
      try simp only [Act.put, List.getElem_toArray, List.getElem_cons_succ, List.getElem_cons_zero, List.setIfInBounds_toArray, List.set_cons_zero, List.set_cons_succ]
      first
        | (refine wpAnyH_take (i := 7) (v := ?_) rfl (by kernel_rfl) (by kernel_rfl) (by kernel_rfl) (fun _ _ _ h => h) (Or.inl ⟨by rfl, ?_⟩) hHeld ?_; rotate_left; (intro wq hSw; (try dsimp only at hSw); go_simp; done))
        | (refine wpAnyH_take (i := 7) (v := ?_) rfl (by kernel_rfl) (by kernel_rfl) (by kernel_rfl) (fun _ _ _ h => h) (Or.inl ⟨by rfl, ?_⟩) hHeld ?_; rotate_left; (intro wq hSw; (try dsimp only at hSw); go_simp; with_reducible rfl))
        | refine wpAnyH_take (i := 7) (v := undef) rfl (by kernel_rfl) (by kernel_rfl) (by kernel_rfl) (fun _ _ _ h => h) (Or.inr ⟨by rfl, rfl⟩) hHeld ?_
      try simp only [Act.put, List.getElem_toArray, List.getElem_cons_succ, List.getElem_cons_zero, List.setIfInBounds_toArray, List.set_cons_zero, List.set_cons_succ]
      first
        | (refine wpAnyH_take (i := 8) (v := ?_) rfl (by kernel_rfl) (by kernel_rfl) (by kernel_rfl) (fun _ _ _ h => h) (Or.inl ⟨by rfl, ?_⟩) hHeld ?_; rotate_left; (intro wq hSw; (try dsimp only at hSw); have v0 := (hSw.cell (p := ⟨b, off + i * 4, none⟩) hbb).trans hc0; have v1 := (hSw.cell (p := ⟨b, off + i * 4 + 1, none⟩) hbb).trans hc1; have v2 := (hSw.cell (p := ⟨b, off + i * 4 + 2, none⟩) hbb).trans hc2; have v3 := (hSw.cell (p := ⟨b, off + i * 4 + 3, none⟩) hbb).trans hc3; go_simp; done))
        | (refine wpAnyH_take (i := 8) (v := ?_) rfl (by kernel_rfl) (by kernel_rfl) (by kernel_rfl) (fun _ _ _ h => h) (Or.inl ⟨by rfl, ?_⟩) hHeld ?_; rotate_left; (intro wq hSw; (try dsimp only at hSw); have v0 := (hSw.cell (p := ⟨b, off + i * 4, none⟩) hbb).trans hc0; have v1 := (hSw.cell (p := ⟨b, off + i * 4 + 1, none⟩) hbb).trans hc1; have v2 := (hSw.cell (p := ⟨b, off + i * 4 + 2, none⟩) hbb).trans hc2; have v3 := (hSw.cell (p := ⟨b, off + i * 4 + 3, none⟩) hbb).trans hc3; go_simp; with_reducible rfl))
        | refine wpAnyH_take (i := 8) (v := undef) rfl (by kernel_rfl) (by kernel_rfl) (by kernel_rfl) (fun _ _ _ h => h) (Or.inr ⟨by rfl, rfl⟩) hHeld ?_
      try simp only [Act.put, List.getElem_toArray, List.getElem_cons_succ, List.getElem_cons_zero, List.setIfInBounds_toArray, List.set_cons_zero, List.set_cons_succ]
      refine wpAnyH_ready (rs := [4]) (by kernel_rfl) (by simp) ?_
      refine AllReadyH.cons rfl (fun K hK => ?_) AllReadyH.nil
      go_simp; go_at_call 63; refine (lives_any _ _).mono ?_; rintro e wx ⟨g2, rfl, hg2, hbx⟩; replace hS := hS.trans (hbx.mono hS.size); clear hbx; try go_wp2_with fail
      refine hK.out _ _ ?_ (fun hHeld => ?_)
      · (try dsimp only); first | done | (exact hS)
      clear hK K
      try simp only [Act.put, List.getElem_toArray, List.getElem_cons_succ, List.getElem_cons_zero, List.setIfInBounds_toArray, List.set_cons_zero, List.set_cons_succ]
      refine wpAnyH_ready (rs := [9]) (by kernel_rfl) (by simp) ?_
      refine AllReadyH.cons rfl (fun K hK => ?_) AllReadyH.nil
      go_simp; refine (livesC_any x _ now _ hg2).mono ?_; rw [HF.out]; rintro e wx ⟨rfl, hbx⟩; replace hS := hS.trans (hbx.mono hS.size); clear hbx; try go_wp2_with fail
      refine hK.out _ _ ?_ (fun hHeld => ?_)
      · (try dsimp only); first | done | (exact hS)
      clear hK K
      try simp only [Act.put, List.getElem_toArray, List.getElem_cons_succ, List.getElem_cons_zero, List.setIfInBounds_toArray, List.set_cons_zero, List.set_cons_succ]
      first
        | (refine wpAnyH_take (i := 10) (v := ?_) rfl (by kernel_rfl) (by kernel_rfl) (by kernel_rfl) (fun _ _ _ h => h) (Or.inl ⟨by rfl, ?_⟩) hHeld ?_; rotate_left; (intro wq hSw; (try dsimp only at hSw); go_simp; done))
        | (refine wpAnyH_take (i := 10) (v := ?_) rfl (by kernel_rfl) (by kernel_rfl) (by kernel_rfl) (fun _ _ _ h => h) (Or.inl ⟨by rfl, ?_⟩) hHeld ?_; rotate_left; (intro wq hSw; (try dsimp only at hSw); go_simp; with_reducible rfl))
        | refine wpAnyH_take (i := 10) (v := undef) rfl (by kernel_rfl) (by kernel_rfl) (by kernel_rfl) (fun _ _ _ h => h) (Or.inr ⟨by rfl, rfl⟩) hHeld ?_
      try simp only [Act.put, List.getElem_toArray, List.getElem_cons_succ, List.getElem_cons_zero, List.setIfInBounds_toArray, List.set_cons_zero, List.set_cons_succ]
      refine wpAnyH_done (by kernel_rfl) ?_ _
      (have hz3 := (hS.block _ lz).trans hz2; clear hz2; obtain ⟨y0, y1, y2, y3⟩ := kn_cells hz3; obtain ⟨x0, x1, x2, x3⟩ := kn_free hz3; have v0 := (hS.cell (p := ⟨b, off + i * 4, none⟩) hbb).trans hc0; have v1 := (hS.cell (p := ⟨b, off + i * 4 + 1, none⟩) hbb).trans hc1; have v2 := (hS.cell (p := ⟨b, off + i * 4 + 2, none⟩) hbb).trans hc2; have v3 := (hS.cell (p := ⟨b, off + i * 4 + 3, none⟩) hbb).trans hc3; go_wp2_with fail; obtain ⟨q0, q1, q2, q3⟩ := kn_cells (putKn_at x hz3); unfold putKn at q0 q1 q2 q3; exact bodyPost_ret (v := .tuple #[valKn x, .bool true]) (by simp [results, Try.results43, go_sem, valKn, q0, q1, q2, q3]) rfl ⟨by rw [HQ.out]; rfl, putKn_below x (hbw2.trans (hS.mono hbw2.size)) (Nat.le_refl _)⟩)
end Go.Proofs.Ytfahmfaakjnpcaa
