/-
  The statements' own example of chapter 12, and their questions whether rows are too great. Conditions: none.
-/
import Derived.Test.YtgpijomnnnjgkaaScar6
import Derived.Deep.RegionHeld3
namespace Go.Proofs.Ytgpijomnnnjgkaa
open Go.RowKit Go.Shelf

theorem step_buildAd {ops : Array Oper} {o : Oper} {a : Act} {w : World} {K : Act → World → Prop} {Q : Exit → Act → World → Prop} {E : Prop} (hgd : o.guard = none) (t : Operand)
    (ho : o.op = .buildSlice 22 1 #[(0, t)]) (x : Ad) (hx : a.eval t = .agg #[.int .i8 x.1, .int .u16 x.2.1, .int .u16 x.2.2.1, .int .u16 x.2.2.2.1, .int .u16 x.2.2.2.2.1, .int .u16 x.2.2.2.2.2.1, .int .u16 x.2.2.2.2.2.2.1, .int .u16 x.2.2.2.2.2.2.2.1, .int .u16 x.2.2.2.2.2.2.2.2.1, .int .i64 x.2.2.2.2.2.2.2.2.2])
    (h : ∀ A w', Ads w' w'.heap.size A 1 [x] → Below w.heap.size w w' → K (a.put o.dst (.slice A 1 1)) w') :
    if Region.wanted o (yielded ops a.tmps) = true then Oper.wp Try.prog o a w K Q else E := by
  have hw : Region.wanted o (yielded ops a.tmps) = true := by simp [Region.wanted, hgd]
  rw [if_pos hw]
  have h2 := h (some ⟨w.heap.size, 0, none⟩) (w.alloc (.cells #[.int .i8 x.1, .int .u16 x.2.1, .int .u16 x.2.2.1, .int .u16 x.2.2.2.1, .int .u16 x.2.2.2.2.1, .int .u16 x.2.2.2.2.2.1, .int .u16 x.2.2.2.2.2.2.1, .int .u16 x.2.2.2.2.2.2.2.1, .int .u16 x.2.2.2.2.2.2.2.2.1, .int .i64 x.2.2.2.2.2.2.2.2.2] 31)) (by simpa using Ads.new1 w _ rfl x 31) (Below.new_ w _)
  unfold Oper.wp execOp
  simp only [ho, resolve, List.map_toArray, List.map_cons, List.map_nil, hx]
  go_simp
  exact h2
theorem step_buildAdG {ops : Array Oper} {o : Oper} {a : Act} {w : World} {K : Act → World → Prop} {Q : Exit → Act → World → Prop} {E : Prop} (hw : Region.wanted o (yielded ops a.tmps) = true) (t : Operand)
    (ho : o.op = .buildSlice 22 1 #[(0, t)]) (x : Ad) (hx : a.eval t = .agg #[.int .i8 x.1, .int .u16 x.2.1, .int .u16 x.2.2.1, .int .u16 x.2.2.2.1, .int .u16 x.2.2.2.2.1, .int .u16 x.2.2.2.2.2.1, .int .u16 x.2.2.2.2.2.2.1, .int .u16 x.2.2.2.2.2.2.2.1, .int .u16 x.2.2.2.2.2.2.2.2.1, .int .i64 x.2.2.2.2.2.2.2.2.2])
    (h : ∀ A w', Ads w' w'.heap.size A 1 [x] → Below w.heap.size w w' → K (a.put o.dst (.slice A 1 1)) w') :
    if Region.wanted o (yielded ops a.tmps) = true then Oper.wp Try.prog o a w K Q else E := by
  rw [if_pos hw]
  have h2 := h (some ⟨w.heap.size, 0, none⟩) (w.alloc (.cells #[.int .i8 x.1, .int .u16 x.2.1, .int .u16 x.2.2.1, .int .u16 x.2.2.2.1, .int .u16 x.2.2.2.2.1, .int .u16 x.2.2.2.2.2.1, .int .u16 x.2.2.2.2.2.2.1, .int .u16 x.2.2.2.2.2.2.2.1, .int .u16 x.2.2.2.2.2.2.2.2.1, .int .i64 x.2.2.2.2.2.2.2.2.2] 31)) (by simpa using Ads.new1 w _ rfl x 31) (Below.new_ w _)
  unfold Oper.wp execOp
  simp only [ho, resolve, List.map_toArray, List.map_cons, List.map_nil, hx]
  go_simp
  exact h2
theorem step_loadAd {ops : Array Oper} {o : Oper} {a : Act} {w : World} {K : Act → World → Prop} {Q : Exit → Act → World → Prop} {E : Prop} (hgd : o.guard = none) (t : Operand)
    (ho : o.op = .load 31 t) (g : Nat) (x : Ad) (ht : a.eval t = .pointer (some ⟨g, 0, none⟩)) (hh : w.heap[g]? = some (.cells #[.int .i8 x.1, .int .u16 x.2.1, .int .u16 x.2.2.1, .int .u16 x.2.2.2.1, .int .u16 x.2.2.2.2.1, .int .u16 x.2.2.2.2.2.1, .int .u16 x.2.2.2.2.2.2.1, .int .u16 x.2.2.2.2.2.2.2.1, .int .u16 x.2.2.2.2.2.2.2.2.1, .int .i64 x.2.2.2.2.2.2.2.2.2] 31 (0, 0)))
    (h : K (a.put o.dst (.agg #[.int .i8 x.1, .int .u16 x.2.1, .int .u16 x.2.2.1, .int .u16 x.2.2.2.1, .int .u16 x.2.2.2.2.1, .int .u16 x.2.2.2.2.2.1, .int .u16 x.2.2.2.2.2.2.1, .int .u16 x.2.2.2.2.2.2.2.1, .int .u16 x.2.2.2.2.2.2.2.2.1, .int .i64 x.2.2.2.2.2.2.2.2.2])) w) :
    if Region.wanted o (yielded ops a.tmps) = true then Oper.wp Try.prog o a w K Q else E := by
  have hw : Region.wanted o (yielded ops a.tmps) = true := by simp [Region.wanted, hgd]
  rw [if_pos hw]
  obtain ⟨z0, z1, z2, z3, z4, z5, z6, z7, z8, z9⟩ := ad_cells hh
  unfold Oper.wp execOp
  simp only [ho, resolve, ht]
  go_simp
  exact h

theorem Note_at (A : Option Addr) (n c : Nat) (l : List Sc) (now : Int) (As : Option Addr) (ns cs : Nat) (ls : List Ad) (w : World) (hl : Scs w w.heap.size A n l) (hs : Ads w w.heap.size As ns ls) (R : List Sc) (m : Nat) (hR : noteL l now ls = R) (hm : R.length = m) (hn : n + ns ≤ 1000) :
    Calls Try.prog 10 #[.slice A n c, .int .i64 now, .slice As ns cs] w fun e w' => ∃ A' c', e = .returned (.slice A' m c') ∧ Scs w' w'.heap.size A' m R ∧ m ≤ c' ∧ Below w.heap.size w w' := by
  subst hR hm
  exact Note_any A n c l now As ns cs ls w hl hs hn
def adA : Ad := (4, 0, 0, 0, 0, 0, 0, 0, 0, 1)
def adB : Ad := (4, 0, 0, 0, 0, 0, 0, 0, 0, 2)
theorem two_ads (w : World) : ((w.alloc (.cells #[.int .i8 4, .int .u16 0, .int .u16 0, .int .u16 0, .int .u16 0, .int .u16 0, .int .u16 0, .int .u16 0, .int .u16 0, .int .i64 1] 31)).alloc (.cells #[.int .i8 4, .int .u16 0, .int .u16 0, .int .u16 0, .int .u16 0, .int .u16 0, .int .u16 0, .int .u16 0, .int .u16 0, .int .i64 2] 31)).heap[w.heap.size]? = some (.cells #[.int .i8 adA.1, .int .u16 adA.2.1, .int .u16 adA.2.2.1, .int .u16 adA.2.2.2.1, .int .u16 adA.2.2.2.2.1, .int .u16 adA.2.2.2.2.2.1, .int .u16 adA.2.2.2.2.2.2.1, .int .u16 adA.2.2.2.2.2.2.2.1, .int .u16 adA.2.2.2.2.2.2.2.2.1, .int .i64 adA.2.2.2.2.2.2.2.2.2] 31 (0, 0)) ∧ ((w.alloc (.cells #[.int .i8 4, .int .u16 0, .int .u16 0, .int .u16 0, .int .u16 0, .int .u16 0, .int .u16 0, .int .u16 0, .int .u16 0, .int .i64 1] 31)).alloc (.cells #[.int .i8 4, .int .u16 0, .int .u16 0, .int .u16 0, .int .u16 0, .int .u16 0, .int .u16 0, .int .u16 0, .int .u16 0, .int .i64 2] 31)).heap[w.heap.size + 1]? = some (.cells #[.int .i8 adB.1, .int .u16 adB.2.1, .int .u16 adB.2.2.1, .int .u16 adB.2.2.2.1, .int .u16 adB.2.2.2.2.1, .int .u16 adB.2.2.2.2.2.1, .int .u16 adB.2.2.2.2.2.2.1, .int .u16 adB.2.2.2.2.2.2.2.1, .int .u16 adB.2.2.2.2.2.2.2.2.1, .int .i64 adB.2.2.2.2.2.2.2.2.2] 31 (0, 0)) ∧ w.heap.size + 1 < ((w.alloc (.cells #[.int .i8 4, .int .u16 0, .int .u16 0, .int .u16 0, .int .u16 0, .int .u16 0, .int .u16 0, .int .u16 0, .int .u16 0, .int .i64 1] 31)).alloc (.cells #[.int .i8 4, .int .u16 0, .int .u16 0, .int .u16 0, .int .u16 0, .int .u16 0, .int .u16 0, .int .u16 0, .int .u16 0, .int .i64 2] 31)).heap.size ∧ Below w.heap.size w ((w.alloc (.cells #[.int .i8 4, .int .u16 0, .int .u16 0, .int .u16 0, .int .u16 0, .int .u16 0, .int .u16 0, .int .u16 0, .int .u16 0, .int .i64 1] 31)).alloc (.cells #[.int .i8 4, .int .u16 0, .int .u16 0, .int .u16 0, .int .u16 0, .int .u16 0, .int .u16 0, .int .u16 0, .int .u16 0, .int .i64 2] 31)) :=
  ⟨(Below.heap_alloc _ _ _ (by simp)).trans (heap_alloc_new w _), (by have := heap_alloc_new (w.alloc (.cells #[.int .i8 4, .int .u16 0, .int .u16 0, .int .u16 0, .int .u16 0, .int .u16 0, .int .u16 0, .int .u16 0, .int .u16 0, .int .i64 1] 31)) (.cells #[.int .i8 4, .int .u16 0, .int .u16 0, .int .u16 0, .int .u16 0, .int .u16 0, .int .u16 0, .int .u16 0, .int .u16 0, .int .i64 2] 31); rw [show (w.alloc (.cells #[.int .i8 4, .int .u16 0, .int .u16 0, .int .u16 0, .int .u16 0, .int .u16 0, .int .u16 0, .int .u16 0, .int .u16 0, .int .i64 1] 31)).heap.size = w.heap.size + 1 by simp] at this; exact this), (by simp), (Below.new_ w _).alloc (by simp) _⟩
theorem Scs.cells_at {w : World} {B b off n i : Nat} {xs : List Sc} {x : Sc} (h : Scs w B (some ⟨b, off, none⟩) n xs) (hi : i < n) (hx : xs[i]? = some x) : w.cell? ⟨b, off + i * 11, none⟩ = some (.int .i8 x.1.1) ∧ w.cell? ⟨b, off + i * 11 + 1, none⟩ = some (.int .u16 x.1.2.1) ∧ w.cell? ⟨b, off + i * 11 + 2, none⟩ = some (.int .u16 x.1.2.2.1) ∧ w.cell? ⟨b, off + i * 11 + 3, none⟩ = some (.int .u16 x.1.2.2.2.1) ∧ w.cell? ⟨b, off + i * 11 + 4, none⟩ = some (.int .u16 x.1.2.2.2.2.1) ∧ w.cell? ⟨b, off + i * 11 + 5, none⟩ = some (.int .u16 x.1.2.2.2.2.2.1) ∧ w.cell? ⟨b, off + i * 11 + 6, none⟩ = some (.int .u16 x.1.2.2.2.2.2.2.1) ∧ w.cell? ⟨b, off + i * 11 + 7, none⟩ = some (.int .u16 x.1.2.2.2.2.2.2.2.1) ∧ w.cell? ⟨b, off + i * 11 + 8, none⟩ = some (.int .u16 x.1.2.2.2.2.2.2.2.2.1) ∧ w.cell? ⟨b, off + i * 11 + 9, none⟩ = some (.int .i64 x.1.2.2.2.2.2.2.2.2.2) ∧ w.cell? ⟨b, off + i * 11 + 10, none⟩ = some (.int .i64 x.2) := by
  obtain ⟨b', off', y, e, hbb, hy, hc⟩ := Scs.cells h hi
  injection e with e
  injection e with e1 e2
  subst e1 e2
  have h2 := hy.out
  rw [hx] at h2
  injection h2 with h2
  subst h2
  exact hc
set_option maxRecDepth 100000 in
set_option maxHeartbeats 4000000 in
theorem wakes12_any (w : World) : Calls Try.prog 9 #[] w fun e w' => e = .returned (.bool true) ∧ Below w.heap.size w w' := by
  have hN1 : Hid (noteL [] 3 [adA] = [(adA, 3)]) := (by show _ = _; decide)
  have hN2 : Hid (noteL [(adA, 3)] 4 [adB] = [(adA, 3), (adB, 4)]) := (by show _ = _; decide)
  have hN3 : Hid (noteL [(adA, 3), (adB, 4)] 5 [adA] = [(adB, 4), (adA, 5)]) := (by show _ = _; decide)
  go_enter Try.func9, Try.ntmps9
  go_upto_region 2 with fail
  go_cut [3] (fun s3 wx => ∃ A c, s3 = .slice A 2 c ∧ Scs wx wx.heap.size A 2 [(adB, 4), (adA, 5)] ∧ wx.heap[w.heap.size]? = some (.cells #[.int .i8 adA.1, .int .u16 adA.2.1, .int .u16 adA.2.2.1, .int .u16 adA.2.2.2.1, .int .u16 adA.2.2.2.2.1, .int .u16 adA.2.2.2.2.2.1, .int .u16 adA.2.2.2.2.2.2.1, .int .u16 adA.2.2.2.2.2.2.2.1, .int .u16 adA.2.2.2.2.2.2.2.2.1, .int .i64 adA.2.2.2.2.2.2.2.2.2] 31 (0, 0)) ∧ wx.heap[w.heap.size + 1]? = some (.cells #[.int .i8 adB.1, .int .u16 adB.2.1, .int .u16 adB.2.2.1, .int .u16 adB.2.2.2.1, .int .u16 adB.2.2.2.2.1, .int .u16 adB.2.2.2.2.2.1, .int .u16 adB.2.2.2.2.2.2.1, .int .u16 adB.2.2.2.2.2.2.2.1, .int .u16 adB.2.2.2.2.2.2.2.2.1, .int .i64 adB.2.2.2.2.2.2.2.2.2] 31 (0, 0)) ∧ Below w.heap.size w wx ∧ w.heap.size + 1 < wx.heap.size)
  case first =>
    go_wp2_with fail
    have hF := two_ads w
    generalize ((w.alloc (.cells #[.int .i8 4, .int .u16 0, .int .u16 0, .int .u16 0, .int .u16 0, .int .u16 0, .int .u16 0, .int .u16 0, .int .u16 0, .int .i64 1] 31)).alloc (.cells #[.int .i8 4, .int .u16 0, .int .u16 0, .int .u16 0, .int .u16 0, .int .u16 0, .int .u16 0, .int .u16 0, .int .u16 0, .int .i64 2] 31)) = W at hF ⊢
    obtain ⟨hA, hB, lB, hb⟩ := hF
    have lA : w.heap.size < W.heap.size := by omega
    replace hb : Below w.heap.size w W.drew := hb.drew
    replace lA : w.heap.size < W.drew.heap.size := lA
    replace lB : w.heap.size + 1 < W.drew.heap.size := lB
    replace hA : W.drew.heap[w.heap.size]? = some (.cells #[.int .i8 adA.1, .int .u16 adA.2.1, .int .u16 adA.2.2.1, .int .u16 adA.2.2.2.1, .int .u16 adA.2.2.2.2.1, .int .u16 adA.2.2.2.2.2.1, .int .u16 adA.2.2.2.2.2.2.1, .int .u16 adA.2.2.2.2.2.2.2.1, .int .u16 adA.2.2.2.2.2.2.2.2.1, .int .i64 adA.2.2.2.2.2.2.2.2.2] 31 (0, 0)) := hA
    replace hB : W.drew.heap[w.heap.size + 1]? = some (.cells #[.int .i8 adB.1, .int .u16 adB.2.1, .int .u16 adB.2.2.1, .int .u16 adB.2.2.2.1, .int .u16 adB.2.2.2.2.1, .int .u16 adB.2.2.2.2.2.1, .int .u16 adB.2.2.2.2.2.2.1, .int .u16 adB.2.2.2.2.2.2.2.1, .int .u16 adB.2.2.2.2.2.2.2.2.1, .int .i64 adB.2.2.2.2.2.2.2.2.2] 31 (0, 0)) := hB
    refine wp_region_held_drew (S := (fun wx => wx.heap[w.heap.size]? = some (.cells #[.int .i8 adA.1, .int .u16 adA.2.1, .int .u16 adA.2.2.1, .int .u16 adA.2.2.2.1, .int .u16 adA.2.2.2.2.1, .int .u16 adA.2.2.2.2.2.1, .int .u16 adA.2.2.2.2.2.2.1, .int .u16 adA.2.2.2.2.2.2.2.1, .int .u16 adA.2.2.2.2.2.2.2.2.1, .int .i64 adA.2.2.2.2.2.2.2.2.2] 31 (0, 0)) ∧ wx.heap[w.heap.size + 1]? = some (.cells #[.int .i8 adB.1, .int .u16 adB.2.1, .int .u16 adB.2.2.1, .int .u16 adB.2.2.2.1, .int .u16 adB.2.2.2.2.1, .int .u16 adB.2.2.2.2.2.1, .int .u16 adB.2.2.2.2.2.2.1, .int .u16 adB.2.2.2.2.2.2.2.1, .int .u16 adB.2.2.2.2.2.2.2.2.1, .int .i64 adB.2.2.2.2.2.2.2.2.2] 31 (0, 0)) ∧ w.heap.size + 1 < wx.heap.size)) (by kernel_rfl) ?_ (fun hHeld => ?_)
    · (try dsimp only); first | done | (exact ⟨hA, hB, lB⟩)
    first
      | (refine wpAnyH_take (i := 0) (v := ?_) rfl (by kernel_rfl) (by kernel_rfl) (by kernel_rfl) (fun _ _ _ h => h) (Or.inl ⟨by rfl, ?_⟩) hHeld ?_; rotate_left; (intro wq hSw; (try dsimp only at hSw); obtain ⟨sA, sB, sl⟩ := hSw; obtain ⟨z0, z1, z2, z3, z4, z5, z6, z7, z8, z9⟩ := ad_cells sA; go_simp; done))
      | (refine wpAnyH_take (i := 0) (v := ?_) rfl (by kernel_rfl) (by kernel_rfl) (by kernel_rfl) (fun _ _ _ h => h) (Or.inl ⟨by rfl, ?_⟩) hHeld ?_; rotate_left; (intro wq hSw; (try dsimp only at hSw); obtain ⟨sA, sB, sl⟩ := hSw; obtain ⟨z0, z1, z2, z3, z4, z5, z6, z7, z8, z9⟩ := ad_cells sA; go_simp; with_reducible rfl))
      | refine wpAnyH_take (i := 0) (v := undef) rfl (by kernel_rfl) (by kernel_rfl) (by kernel_rfl) (fun _ _ _ h => h) (Or.inr ⟨by rfl, rfl⟩) hHeld ?_
    try simp only [Act.put, List.getElem_toArray, List.getElem_cons_succ, List.getElem_cons_zero, List.setIfInBounds_toArray, List.set_cons_zero, List.set_cons_succ]
    first
      | (refine wpAnyH_take (i := 3) (v := ?_) rfl (by kernel_rfl) (by kernel_rfl) (by kernel_rfl) (fun _ _ _ h => h) (Or.inl ⟨by rfl, ?_⟩) hHeld ?_; rotate_left; (intro wq hSw; (try dsimp only at hSw); obtain ⟨sA, sB, sl⟩ := hSw; obtain ⟨z0, z1, z2, z3, z4, z5, z6, z7, z8, z9⟩ := ad_cells sB; go_simp; done))
      | (refine wpAnyH_take (i := 3) (v := ?_) rfl (by kernel_rfl) (by kernel_rfl) (by kernel_rfl) (fun _ _ _ h => h) (Or.inl ⟨by rfl, ?_⟩) hHeld ?_; rotate_left; (intro wq hSw; (try dsimp only at hSw); obtain ⟨sA, sB, sl⟩ := hSw; obtain ⟨z0, z1, z2, z3, z4, z5, z6, z7, z8, z9⟩ := ad_cells sB; go_simp; with_reducible rfl))
      | refine wpAnyH_take (i := 3) (v := undef) rfl (by kernel_rfl) (by kernel_rfl) (by kernel_rfl) (fun _ _ _ h => h) (Or.inr ⟨by rfl, rfl⟩) hHeld ?_
    try simp only [Act.put, List.getElem_toArray, List.getElem_cons_succ, List.getElem_cons_zero, List.setIfInBounds_toArray, List.set_cons_zero, List.set_cons_succ]
    first
      | (refine wpAnyH_take (i := 6) (v := ?_) rfl (by kernel_rfl) (by kernel_rfl) (by kernel_rfl) (fun _ _ _ h => h) (Or.inl ⟨by rfl, ?_⟩) hHeld ?_; rotate_left; (intro wq hSw; (try dsimp only at hSw); obtain ⟨sA, sB, sl⟩ := hSw; obtain ⟨z0, z1, z2, z3, z4, z5, z6, z7, z8, z9⟩ := ad_cells sA; go_simp; done))
      | (refine wpAnyH_take (i := 6) (v := ?_) rfl (by kernel_rfl) (by kernel_rfl) (by kernel_rfl) (fun _ _ _ h => h) (Or.inl ⟨by rfl, ?_⟩) hHeld ?_; rotate_left; (intro wq hSw; (try dsimp only at hSw); obtain ⟨sA, sB, sl⟩ := hSw; obtain ⟨z0, z1, z2, z3, z4, z5, z6, z7, z8, z9⟩ := ad_cells sA; go_simp; with_reducible rfl))
      | refine wpAnyH_take (i := 6) (v := undef) rfl (by kernel_rfl) (by kernel_rfl) (by kernel_rfl) (fun _ _ _ h => h) (Or.inr ⟨by rfl, rfl⟩) hHeld ?_
    try simp only [Act.put, List.getElem_toArray, List.getElem_cons_succ, List.getElem_cons_zero, List.setIfInBounds_toArray, List.set_cons_zero, List.set_cons_succ]
    refine wpAnyH_ready (rs := [1, 4, 7]) (by kernel_rfl) (by simp) ?_
    refine AllReadyH.cons rfl (fun K hK => ?_) ?_
    ·
      refine step_buildAd (by rfl) (.tmp 8) (by rfl) adA (by rfl) ?_; intro B9 wx h9 hbx; replace hA := (hbx.block _ lA).trans hA; replace hB := (hbx.block _ lB).trans hB; replace lA := Nat.lt_of_lt_of_le lA hbx.size; replace lB := Nat.lt_of_lt_of_le lB hbx.size; replace hb := hb.trans (hbx.mono hb.size); (try replace h12 := (h12.below hbx).more hbx.size); (try replace h15 := (h15.below hbx).more hbx.size); (try replace n10 := (n10.below hbx).more hbx.size); (try replace n13 := (n13.below hbx).more hbx.size); clear hbx
      refine hK.out _ _ ?_ (fun hHeld => ?_)
      · (try dsimp only); first | done | (exact ⟨hA, hB, lB⟩)
      clear hK K
      try simp only [Act.put, List.getElem_toArray, List.getElem_cons_succ, List.getElem_cons_zero, List.setIfInBounds_toArray, List.set_cons_zero, List.set_cons_succ]
      refine wpAnyH_ready (rs := [2, 4, 7]) (by kernel_rfl) (by simp) ?_
      refine AllReadyH.cons rfl (fun K hK => ?_) ?_
      ·
        go_simp; go_at_call 10; refine (Note_at none 0 0 [] 3 _ 1 1 [adA] _ (Recs.nil_ _ _ _) h9 [(adA, 3)] 1 hN1.out rfl (by omega)).mono ?_; rintro e wx ⟨A10, c10, rfl, n10, m10, hbx⟩; replace hA := (hbx.block _ lA).trans hA; replace hB := (hbx.block _ lB).trans hB; replace lA := Nat.lt_of_lt_of_le lA hbx.size; replace lB := Nat.lt_of_lt_of_le lB hbx.size; replace hb := hb.trans (hbx.mono hb.size); (try replace h9 := (h9.below hbx).more hbx.size); (try replace h12 := (h12.below hbx).more hbx.size); (try replace h15 := (h15.below hbx).more hbx.size); (try replace n13 := (n13.below hbx).more hbx.size); clear hbx; try go_wp2_with fail
        refine hK.out _ _ ?_ (fun hHeld => ?_)
        · (try dsimp only); first | done | (exact ⟨hA, hB, lB⟩)
        clear hK K
        try simp only [Act.put, List.getElem_toArray, List.getElem_cons_succ, List.getElem_cons_zero, List.setIfInBounds_toArray, List.set_cons_zero, List.set_cons_succ]
        refine wpAnyH_ready (rs := [4, 7]) (by kernel_rfl) (by simp) ?_
        refine AllReadyH.cons rfl (fun K hK => ?_) ?_
        ·
          refine step_buildAd (by rfl) (.tmp 11) (by rfl) adB (by rfl) ?_; intro B12 wx h12 hbx; replace hA := (hbx.block _ lA).trans hA; replace hB := (hbx.block _ lB).trans hB; replace lA := Nat.lt_of_lt_of_le lA hbx.size; replace lB := Nat.lt_of_lt_of_le lB hbx.size; replace hb := hb.trans (hbx.mono hb.size); (try replace h9 := (h9.below hbx).more hbx.size); (try replace h15 := (h15.below hbx).more hbx.size); (try replace n10 := (n10.below hbx).more hbx.size); (try replace n13 := (n13.below hbx).more hbx.size); clear hbx
          refine hK.out _ _ ?_ (fun hHeld => ?_)
          · (try dsimp only); first | done | (exact ⟨hA, hB, lB⟩)
          clear hK K
          try simp only [Act.put, List.getElem_toArray, List.getElem_cons_succ, List.getElem_cons_zero, List.setIfInBounds_toArray, List.set_cons_zero, List.set_cons_succ]
          refine wpAnyH_ready (rs := [5, 7]) (by kernel_rfl) (by simp) ?_
          refine AllReadyH.cons rfl (fun K hK => ?_) ?_
          ·
            go_simp; go_at_call 10; refine (Note_at A10 1 c10 [(adA, 3)] 4 _ 1 1 [adB] _ n10 h12 [(adA, 3), (adB, 4)] 2 hN2.out rfl (by omega)).mono ?_; rintro e wx ⟨A13, c13, rfl, n13, m13, hbx⟩; replace hA := (hbx.block _ lA).trans hA; replace hB := (hbx.block _ lB).trans hB; replace lA := Nat.lt_of_lt_of_le lA hbx.size; replace lB := Nat.lt_of_lt_of_le lB hbx.size; replace hb := hb.trans (hbx.mono hb.size); (try replace h9 := (h9.below hbx).more hbx.size); (try replace h12 := (h12.below hbx).more hbx.size); (try replace h15 := (h15.below hbx).more hbx.size); (try replace n10 := (n10.below hbx).more hbx.size); clear hbx; try go_wp2_with fail
            refine hK.out _ _ ?_ (fun hHeld => ?_)
            · (try dsimp only); first | done | (exact ⟨hA, hB, lB⟩)
            clear hK K
            try simp only [Act.put, List.getElem_toArray, List.getElem_cons_succ, List.getElem_cons_zero, List.setIfInBounds_toArray, List.set_cons_zero, List.set_cons_succ]
            refine wpAnyH_ready (rs := [7]) (by kernel_rfl) (by simp) ?_
            refine AllReadyH.cons rfl (fun K hK => ?_) AllReadyH.nil
            refine step_buildAd (by rfl) (.tmp 14) (by rfl) adA (by rfl) ?_; intro B15 wx h15 hbx; replace hA := (hbx.block _ lA).trans hA; replace hB := (hbx.block _ lB).trans hB; replace lA := Nat.lt_of_lt_of_le lA hbx.size; replace lB := Nat.lt_of_lt_of_le lB hbx.size; replace hb := hb.trans (hbx.mono hb.size); (try replace h9 := (h9.below hbx).more hbx.size); (try replace h12 := (h12.below hbx).more hbx.size); (try replace n10 := (n10.below hbx).more hbx.size); (try replace n13 := (n13.below hbx).more hbx.size); clear hbx
            refine hK.out _ _ ?_ (fun hHeld => ?_)
            · (try dsimp only); first | done | (exact ⟨hA, hB, lB⟩)
            clear hK K
            try simp only [Act.put, List.getElem_toArray, List.getElem_cons_succ, List.getElem_cons_zero, List.setIfInBounds_toArray, List.set_cons_zero, List.set_cons_succ]
            refine wpAnyH_ready (rs := [8]) (by kernel_rfl) (by simp) ?_
            refine AllReadyH.cons rfl (fun K hK => ?_) AllReadyH.nil
            go_simp; go_at_call 10; refine (Note_at A13 2 c13 [(adA, 3), (adB, 4)] 5 _ 1 1 [adA] _ n13 h15 [(adB, 4), (adA, 5)] 2 hN3.out rfl (by omega)).mono ?_; rintro e wx ⟨A16, c16, rfl, n16, m16, hbx⟩; replace hA := (hbx.block _ lA).trans hA; replace hB := (hbx.block _ lB).trans hB; replace lA := Nat.lt_of_lt_of_le lA hbx.size; replace lB := Nat.lt_of_lt_of_le lB hbx.size; replace hb := hb.trans (hbx.mono hb.size); (try replace h9 := (h9.below hbx).more hbx.size); (try replace h12 := (h12.below hbx).more hbx.size); (try replace h15 := (h15.below hbx).more hbx.size); (try replace n10 := (n10.below hbx).more hbx.size); (try replace n13 := (n13.below hbx).more hbx.size); clear hbx; try go_wp2_with fail
            refine hK.out _ _ ?_ (fun hHeld => ?_)
            · (try dsimp only); first | done | (exact ⟨hA, hB, lB⟩)
            clear hK K
            try simp only [Act.put, List.getElem_toArray, List.getElem_cons_succ, List.getElem_cons_zero, List.setIfInBounds_toArray, List.set_cons_zero, List.set_cons_succ]
            first
              | (refine wpAnyH_take (i := 9) (v := ?_) rfl (by kernel_rfl) (by kernel_rfl) (by kernel_rfl) (fun _ _ _ h => h) (Or.inl ⟨by rfl, ?_⟩) hHeld ?_; rotate_left; (intro wq hSw; (try dsimp only at hSw); go_simp; done))
              | (refine wpAnyH_take (i := 9) (v := ?_) rfl (by kernel_rfl) (by kernel_rfl) (by kernel_rfl) (fun _ _ _ h => h) (Or.inl ⟨by rfl, ?_⟩) hHeld ?_; rotate_left; (intro wq hSw; (try dsimp only at hSw); go_simp; with_reducible rfl))
              | refine wpAnyH_take (i := 9) (v := undef) rfl (by kernel_rfl) (by kernel_rfl) (by kernel_rfl) (fun _ _ _ h => h) (Or.inr ⟨by rfl, rfl⟩) hHeld ?_
            try simp only [Act.put, List.getElem_toArray, List.getElem_cons_succ, List.getElem_cons_zero, List.setIfInBounds_toArray, List.set_cons_zero, List.set_cons_succ]
            refine wpAnyH_done (by kernel_rfl) ?_ _
            (have lx := lB; go_wp2_with fail; go_meet; case rel => exact ⟨_, _, rfl, n16, hA, hB, hb, lx⟩)
          refine AllReadyH.cons rfl (fun K hK => ?_) AllReadyH.nil
          refine step_buildAd (by rfl) (.tmp 14) (by rfl) adA (by rfl) ?_; intro B15 wx h15 hbx; replace hA := (hbx.block _ lA).trans hA; replace hB := (hbx.block _ lB).trans hB; replace lA := Nat.lt_of_lt_of_le lA hbx.size; replace lB := Nat.lt_of_lt_of_le lB hbx.size; replace hb := hb.trans (hbx.mono hb.size); (try replace h9 := (h9.below hbx).more hbx.size); (try replace h12 := (h12.below hbx).more hbx.size); (try replace n10 := (n10.below hbx).more hbx.size); (try replace n13 := (n13.below hbx).more hbx.size); clear hbx
          refine hK.out _ _ ?_ (fun hHeld => ?_)
          · (try dsimp only); first | done | (exact ⟨hA, hB, lB⟩)
          clear hK K
          try simp only [Act.put, List.getElem_toArray, List.getElem_cons_succ, List.getElem_cons_zero, List.setIfInBounds_toArray, List.set_cons_zero, List.set_cons_succ]
          refine wpAnyH_ready (rs := [5]) (by kernel_rfl) (by simp) ?_
          refine AllReadyH.cons rfl (fun K hK => ?_) AllReadyH.nil
          go_simp; go_at_call 10; refine (Note_at A10 1 c10 [(adA, 3)] 4 _ 1 1 [adB] _ n10 h12 [(adA, 3), (adB, 4)] 2 hN2.out rfl (by omega)).mono ?_; rintro e wx ⟨A13, c13, rfl, n13, m13, hbx⟩; replace hA := (hbx.block _ lA).trans hA; replace hB := (hbx.block _ lB).trans hB; replace lA := Nat.lt_of_lt_of_le lA hbx.size; replace lB := Nat.lt_of_lt_of_le lB hbx.size; replace hb := hb.trans (hbx.mono hb.size); (try replace h9 := (h9.below hbx).more hbx.size); (try replace h12 := (h12.below hbx).more hbx.size); (try replace h15 := (h15.below hbx).more hbx.size); (try replace n10 := (n10.below hbx).more hbx.size); clear hbx; try go_wp2_with fail
          refine hK.out _ _ ?_ (fun hHeld => ?_)
          · (try dsimp only); first | done | (exact ⟨hA, hB, lB⟩)
          clear hK K
          try simp only [Act.put, List.getElem_toArray, List.getElem_cons_succ, List.getElem_cons_zero, List.setIfInBounds_toArray, List.set_cons_zero, List.set_cons_succ]
          refine wpAnyH_ready (rs := [8]) (by kernel_rfl) (by simp) ?_
          refine AllReadyH.cons rfl (fun K hK => ?_) AllReadyH.nil
          go_simp; go_at_call 10; refine (Note_at A13 2 c13 [(adA, 3), (adB, 4)] 5 _ 1 1 [adA] _ n13 h15 [(adB, 4), (adA, 5)] 2 hN3.out rfl (by omega)).mono ?_; rintro e wx ⟨A16, c16, rfl, n16, m16, hbx⟩; replace hA := (hbx.block _ lA).trans hA; replace hB := (hbx.block _ lB).trans hB; replace lA := Nat.lt_of_lt_of_le lA hbx.size; replace lB := Nat.lt_of_lt_of_le lB hbx.size; replace hb := hb.trans (hbx.mono hb.size); (try replace h9 := (h9.below hbx).more hbx.size); (try replace h12 := (h12.below hbx).more hbx.size); (try replace h15 := (h15.below hbx).more hbx.size); (try replace n10 := (n10.below hbx).more hbx.size); (try replace n13 := (n13.below hbx).more hbx.size); clear hbx; try go_wp2_with fail
          refine hK.out _ _ ?_ (fun hHeld => ?_)
          · (try dsimp only); first | done | (exact ⟨hA, hB, lB⟩)
          clear hK K
          try simp only [Act.put, List.getElem_toArray, List.getElem_cons_succ, List.getElem_cons_zero, List.setIfInBounds_toArray, List.set_cons_zero, List.set_cons_succ]
          first
            | (refine wpAnyH_take (i := 9) (v := ?_) rfl (by kernel_rfl) (by kernel_rfl) (by kernel_rfl) (fun _ _ _ h => h) (Or.inl ⟨by rfl, ?_⟩) hHeld ?_; rotate_left; (intro wq hSw; (try dsimp only at hSw); go_simp; done))
            | (refine wpAnyH_take (i := 9) (v := ?_) rfl (by kernel_rfl) (by kernel_rfl) (by kernel_rfl) (fun _ _ _ h => h) (Or.inl ⟨by rfl, ?_⟩) hHeld ?_; rotate_left; (intro wq hSw; (try dsimp only at hSw); go_simp; with_reducible rfl))
            | refine wpAnyH_take (i := 9) (v := undef) rfl (by kernel_rfl) (by kernel_rfl) (by kernel_rfl) (fun _ _ _ h => h) (Or.inr ⟨by rfl, rfl⟩) hHeld ?_
          try simp only [Act.put, List.getElem_toArray, List.getElem_cons_succ, List.getElem_cons_zero, List.setIfInBounds_toArray, List.set_cons_zero, List.set_cons_succ]
          refine wpAnyH_done (by kernel_rfl) ?_ _
          (have lx := lB; go_wp2_with fail; go_meet; case rel => exact ⟨_, _, rfl, n16, hA, hB, hb, lx⟩)
        refine AllReadyH.cons rfl (fun K hK => ?_) AllReadyH.nil
        refine step_buildAd (by rfl) (.tmp 14) (by rfl) adA (by rfl) ?_; intro B15 wx h15 hbx; replace hA := (hbx.block _ lA).trans hA; replace hB := (hbx.block _ lB).trans hB; replace lA := Nat.lt_of_lt_of_le lA hbx.size; replace lB := Nat.lt_of_lt_of_le lB hbx.size; replace hb := hb.trans (hbx.mono hb.size); (try replace h9 := (h9.below hbx).more hbx.size); (try replace h12 := (h12.below hbx).more hbx.size); (try replace n10 := (n10.below hbx).more hbx.size); (try replace n13 := (n13.below hbx).more hbx.size); clear hbx
        refine hK.out _ _ ?_ (fun hHeld => ?_)
        · (try dsimp only); first | done | (exact ⟨hA, hB, lB⟩)
        clear hK K
        try simp only [Act.put, List.getElem_toArray, List.getElem_cons_succ, List.getElem_cons_zero, List.setIfInBounds_toArray, List.set_cons_zero, List.set_cons_succ]
        refine wpAnyH_ready (rs := [4]) (by kernel_rfl) (by simp) ?_
        refine AllReadyH.cons rfl (fun K hK => ?_) AllReadyH.nil
        refine step_buildAd (by rfl) (.tmp 11) (by rfl) adB (by rfl) ?_; intro B12 wx h12 hbx; replace hA := (hbx.block _ lA).trans hA; replace hB := (hbx.block _ lB).trans hB; replace lA := Nat.lt_of_lt_of_le lA hbx.size; replace lB := Nat.lt_of_lt_of_le lB hbx.size; replace hb := hb.trans (hbx.mono hb.size); (try replace h9 := (h9.below hbx).more hbx.size); (try replace h15 := (h15.below hbx).more hbx.size); (try replace n10 := (n10.below hbx).more hbx.size); (try replace n13 := (n13.below hbx).more hbx.size); clear hbx
        refine hK.out _ _ ?_ (fun hHeld => ?_)
        · (try dsimp only); first | done | (exact ⟨hA, hB, lB⟩)
        clear hK K
        try simp only [Act.put, List.getElem_toArray, List.getElem_cons_succ, List.getElem_cons_zero, List.setIfInBounds_toArray, List.set_cons_zero, List.set_cons_succ]
        refine wpAnyH_ready (rs := [5]) (by kernel_rfl) (by simp) ?_
        refine AllReadyH.cons rfl (fun K hK => ?_) AllReadyH.nil
        go_simp; go_at_call 10; refine (Note_at A10 1 c10 [(adA, 3)] 4 _ 1 1 [adB] _ n10 h12 [(adA, 3), (adB, 4)] 2 hN2.out rfl (by omega)).mono ?_; rintro e wx ⟨A13, c13, rfl, n13, m13, hbx⟩; replace hA := (hbx.block _ lA).trans hA; replace hB := (hbx.block _ lB).trans hB; replace lA := Nat.lt_of_lt_of_le lA hbx.size; replace lB := Nat.lt_of_lt_of_le lB hbx.size; replace hb := hb.trans (hbx.mono hb.size); (try replace h9 := (h9.below hbx).more hbx.size); (try replace h12 := (h12.below hbx).more hbx.size); (try replace h15 := (h15.below hbx).more hbx.size); (try replace n10 := (n10.below hbx).more hbx.size); clear hbx; try go_wp2_with fail
        refine hK.out _ _ ?_ (fun hHeld => ?_)
        · (try dsimp only); first | done | (exact ⟨hA, hB, lB⟩)
        clear hK K
        try simp only [Act.put, List.getElem_toArray, List.getElem_cons_succ, List.getElem_cons_zero, List.setIfInBounds_toArray, List.set_cons_zero, List.set_cons_succ]
        refine wpAnyH_ready (rs := [8]) (by kernel_rfl) (by simp) ?_
        refine AllReadyH.cons rfl (fun K hK => ?_) AllReadyH.nil
        go_simp; go_at_call 10; refine (Note_at A13 2 c13 [(adA, 3), (adB, 4)] 5 _ 1 1 [adA] _ n13 h15 [(adB, 4), (adA, 5)] 2 hN3.out rfl (by omega)).mono ?_; rintro e wx ⟨A16, c16, rfl, n16, m16, hbx⟩; replace hA := (hbx.block _ lA).trans hA; replace hB := (hbx.block _ lB).trans hB; replace lA := Nat.lt_of_lt_of_le lA hbx.size; replace lB := Nat.lt_of_lt_of_le lB hbx.size; replace hb := hb.trans (hbx.mono hb.size); (try replace h9 := (h9.below hbx).more hbx.size); (try replace h12 := (h12.below hbx).more hbx.size); (try replace h15 := (h15.below hbx).more hbx.size); (try replace n10 := (n10.below hbx).more hbx.size); (try replace n13 := (n13.below hbx).more hbx.size); clear hbx; try go_wp2_with fail
        refine hK.out _ _ ?_ (fun hHeld => ?_)
        · (try dsimp only); first | done | (exact ⟨hA, hB, lB⟩)
        clear hK K
        try simp only [Act.put, List.getElem_toArray, List.getElem_cons_succ, List.getElem_cons_zero, List.setIfInBounds_toArray, List.set_cons_zero, List.set_cons_succ]
        first
          | (refine wpAnyH_take (i := 9) (v := ?_) rfl (by kernel_rfl) (by kernel_rfl) (by kernel_rfl) (fun _ _ _ h => h) (Or.inl ⟨by rfl, ?_⟩) hHeld ?_; rotate_left; (intro wq hSw; (try dsimp only at hSw); go_simp; done))
          | (refine wpAnyH_take (i := 9) (v := ?_) rfl (by kernel_rfl) (by kernel_rfl) (by kernel_rfl) (fun _ _ _ h => h) (Or.inl ⟨by rfl, ?_⟩) hHeld ?_; rotate_left; (intro wq hSw; (try dsimp only at hSw); go_simp; with_reducible rfl))
          | refine wpAnyH_take (i := 9) (v := undef) rfl (by kernel_rfl) (by kernel_rfl) (by kernel_rfl) (fun _ _ _ h => h) (Or.inr ⟨by rfl, rfl⟩) hHeld ?_
        try simp only [Act.put, List.getElem_toArray, List.getElem_cons_succ, List.getElem_cons_zero, List.setIfInBounds_toArray, List.set_cons_zero, List.set_cons_succ]
        refine wpAnyH_done (by kernel_rfl) ?_ _
        (have lx := lB; go_wp2_with fail; go_meet; case rel => exact ⟨_, _, rfl, n16, hA, hB, hb, lx⟩)
      refine AllReadyH.cons rfl (fun K hK => ?_) ?_
      ·
        refine step_buildAd (by rfl) (.tmp 11) (by rfl) adB (by rfl) ?_; intro B12 wx h12 hbx; replace hA := (hbx.block _ lA).trans hA; replace hB := (hbx.block _ lB).trans hB; replace lA := Nat.lt_of_lt_of_le lA hbx.size; replace lB := Nat.lt_of_lt_of_le lB hbx.size; replace hb := hb.trans (hbx.mono hb.size); (try replace h9 := (h9.below hbx).more hbx.size); (try replace h15 := (h15.below hbx).more hbx.size); (try replace n10 := (n10.below hbx).more hbx.size); (try replace n13 := (n13.below hbx).more hbx.size); clear hbx
        refine hK.out _ _ ?_ (fun hHeld => ?_)
        · (try dsimp only); first | done | (exact ⟨hA, hB, lB⟩)
        clear hK K
        try simp only [Act.put, List.getElem_toArray, List.getElem_cons_succ, List.getElem_cons_zero, List.setIfInBounds_toArray, List.set_cons_zero, List.set_cons_succ]
        refine wpAnyH_ready (rs := [2, 7]) (by kernel_rfl) (by simp) ?_
        refine AllReadyH.cons rfl (fun K hK => ?_) ?_
        ·
          go_simp; go_at_call 10; refine (Note_at none 0 0 [] 3 _ 1 1 [adA] _ (Recs.nil_ _ _ _) h9 [(adA, 3)] 1 hN1.out rfl (by omega)).mono ?_; rintro e wx ⟨A10, c10, rfl, n10, m10, hbx⟩; replace hA := (hbx.block _ lA).trans hA; replace hB := (hbx.block _ lB).trans hB; replace lA := Nat.lt_of_lt_of_le lA hbx.size; replace lB := Nat.lt_of_lt_of_le lB hbx.size; replace hb := hb.trans (hbx.mono hb.size); (try replace h9 := (h9.below hbx).more hbx.size); (try replace h12 := (h12.below hbx).more hbx.size); (try replace h15 := (h15.below hbx).more hbx.size); (try replace n13 := (n13.below hbx).more hbx.size); clear hbx; try go_wp2_with fail
          refine hK.out _ _ ?_ (fun hHeld => ?_)
          · (try dsimp only); first | done | (exact ⟨hA, hB, lB⟩)
          clear hK K
          try simp only [Act.put, List.getElem_toArray, List.getElem_cons_succ, List.getElem_cons_zero, List.setIfInBounds_toArray, List.set_cons_zero, List.set_cons_succ]
          refine wpAnyH_ready (rs := [5, 7]) (by kernel_rfl) (by simp) ?_
          refine AllReadyH.cons rfl (fun K hK => ?_) ?_
          ·
            go_simp; go_at_call 10; refine (Note_at A10 1 c10 [(adA, 3)] 4 _ 1 1 [adB] _ n10 h12 [(adA, 3), (adB, 4)] 2 hN2.out rfl (by omega)).mono ?_; rintro e wx ⟨A13, c13, rfl, n13, m13, hbx⟩; replace hA := (hbx.block _ lA).trans hA; replace hB := (hbx.block _ lB).trans hB; replace lA := Nat.lt_of_lt_of_le lA hbx.size; replace lB := Nat.lt_of_lt_of_le lB hbx.size; replace hb := hb.trans (hbx.mono hb.size); (try replace h9 := (h9.below hbx).more hbx.size); (try replace h12 := (h12.below hbx).more hbx.size); (try replace h15 := (h15.below hbx).more hbx.size); (try replace n10 := (n10.below hbx).more hbx.size); clear hbx; try go_wp2_with fail
            refine hK.out _ _ ?_ (fun hHeld => ?_)
            · (try dsimp only); first | done | (exact ⟨hA, hB, lB⟩)
            clear hK K
            try simp only [Act.put, List.getElem_toArray, List.getElem_cons_succ, List.getElem_cons_zero, List.setIfInBounds_toArray, List.set_cons_zero, List.set_cons_succ]
            refine wpAnyH_ready (rs := [7]) (by kernel_rfl) (by simp) ?_
            refine AllReadyH.cons rfl (fun K hK => ?_) AllReadyH.nil
            refine step_buildAd (by rfl) (.tmp 14) (by rfl) adA (by rfl) ?_; intro B15 wx h15 hbx; replace hA := (hbx.block _ lA).trans hA; replace hB := (hbx.block _ lB).trans hB; replace lA := Nat.lt_of_lt_of_le lA hbx.size; replace lB := Nat.lt_of_lt_of_le lB hbx.size; replace hb := hb.trans (hbx.mono hb.size); (try replace h9 := (h9.below hbx).more hbx.size); (try replace h12 := (h12.below hbx).more hbx.size); (try replace n10 := (n10.below hbx).more hbx.size); (try replace n13 := (n13.below hbx).more hbx.size); clear hbx
            refine hK.out _ _ ?_ (fun hHeld => ?_)
            · (try dsimp only); first | done | (exact ⟨hA, hB, lB⟩)
            clear hK K
            try simp only [Act.put, List.getElem_toArray, List.getElem_cons_succ, List.getElem_cons_zero, List.setIfInBounds_toArray, List.set_cons_zero, List.set_cons_succ]
            refine wpAnyH_ready (rs := [8]) (by kernel_rfl) (by simp) ?_
            refine AllReadyH.cons rfl (fun K hK => ?_) AllReadyH.nil
            go_simp; go_at_call 10; refine (Note_at A13 2 c13 [(adA, 3), (adB, 4)] 5 _ 1 1 [adA] _ n13 h15 [(adB, 4), (adA, 5)] 2 hN3.out rfl (by omega)).mono ?_; rintro e wx ⟨A16, c16, rfl, n16, m16, hbx⟩; replace hA := (hbx.block _ lA).trans hA; replace hB := (hbx.block _ lB).trans hB; replace lA := Nat.lt_of_lt_of_le lA hbx.size; replace lB := Nat.lt_of_lt_of_le lB hbx.size; replace hb := hb.trans (hbx.mono hb.size); (try replace h9 := (h9.below hbx).more hbx.size); (try replace h12 := (h12.below hbx).more hbx.size); (try replace h15 := (h15.below hbx).more hbx.size); (try replace n10 := (n10.below hbx).more hbx.size); (try replace n13 := (n13.below hbx).more hbx.size); clear hbx; try go_wp2_with fail
            refine hK.out _ _ ?_ (fun hHeld => ?_)
            · (try dsimp only); first | done | (exact ⟨hA, hB, lB⟩)
            clear hK K
            try simp only [Act.put, List.getElem_toArray, List.getElem_cons_succ, List.getElem_cons_zero, List.setIfInBounds_toArray, List.set_cons_zero, List.set_cons_succ]
            first
              | (refine wpAnyH_take (i := 9) (v := ?_) rfl (by kernel_rfl) (by kernel_rfl) (by kernel_rfl) (fun _ _ _ h => h) (Or.inl ⟨by rfl, ?_⟩) hHeld ?_; rotate_left; (intro wq hSw; (try dsimp only at hSw); go_simp; done))
              | (refine wpAnyH_take (i := 9) (v := ?_) rfl (by kernel_rfl) (by kernel_rfl) (by kernel_rfl) (fun _ _ _ h => h) (Or.inl ⟨by rfl, ?_⟩) hHeld ?_; rotate_left; (intro wq hSw; (try dsimp only at hSw); go_simp; with_reducible rfl))
              | refine wpAnyH_take (i := 9) (v := undef) rfl (by kernel_rfl) (by kernel_rfl) (by kernel_rfl) (fun _ _ _ h => h) (Or.inr ⟨by rfl, rfl⟩) hHeld ?_
            try simp only [Act.put, List.getElem_toArray, List.getElem_cons_succ, List.getElem_cons_zero, List.setIfInBounds_toArray, List.set_cons_zero, List.set_cons_succ]
            refine wpAnyH_done (by kernel_rfl) ?_ _
            (have lx := lB; go_wp2_with fail; go_meet; case rel => exact ⟨_, _, rfl, n16, hA, hB, hb, lx⟩)
          refine AllReadyH.cons rfl (fun K hK => ?_) AllReadyH.nil
          refine step_buildAd (by rfl) (.tmp 14) (by rfl) adA (by rfl) ?_; intro B15 wx h15 hbx; replace hA := (hbx.block _ lA).trans hA; replace hB := (hbx.block _ lB).trans hB; replace lA := Nat.lt_of_lt_of_le lA hbx.size; replace lB := Nat.lt_of_lt_of_le lB hbx.size; replace hb := hb.trans (hbx.mono hb.size); (try replace h9 := (h9.below hbx).more hbx.size); (try replace h12 := (h12.below hbx).more hbx.size); (try replace n10 := (n10.below hbx).more hbx.size); (try replace n13 := (n13.below hbx).more hbx.size); clear hbx
          refine hK.out _ _ ?_ (fun hHeld => ?_)
          · (try dsimp only); first | done | (exact ⟨hA, hB, lB⟩)
          clear hK K
          try simp only [Act.put, List.getElem_toArray, List.getElem_cons_succ, List.getElem_cons_zero, List.setIfInBounds_toArray, List.set_cons_zero, List.set_cons_succ]
          refine wpAnyH_ready (rs := [5]) (by kernel_rfl) (by simp) ?_
          refine AllReadyH.cons rfl (fun K hK => ?_) AllReadyH.nil
          go_simp; go_at_call 10; refine (Note_at A10 1 c10 [(adA, 3)] 4 _ 1 1 [adB] _ n10 h12 [(adA, 3), (adB, 4)] 2 hN2.out rfl (by omega)).mono ?_; rintro e wx ⟨A13, c13, rfl, n13, m13, hbx⟩; replace hA := (hbx.block _ lA).trans hA; replace hB := (hbx.block _ lB).trans hB; replace lA := Nat.lt_of_lt_of_le lA hbx.size; replace lB := Nat.lt_of_lt_of_le lB hbx.size; replace hb := hb.trans (hbx.mono hb.size); (try replace h9 := (h9.below hbx).more hbx.size); (try replace h12 := (h12.below hbx).more hbx.size); (try replace h15 := (h15.below hbx).more hbx.size); (try replace n10 := (n10.below hbx).more hbx.size); clear hbx; try go_wp2_with fail
          refine hK.out _ _ ?_ (fun hHeld => ?_)
          · (try dsimp only); first | done | (exact ⟨hA, hB, lB⟩)
          clear hK K
          try simp only [Act.put, List.getElem_toArray, List.getElem_cons_succ, List.getElem_cons_zero, List.setIfInBounds_toArray, List.set_cons_zero, List.set_cons_succ]
          refine wpAnyH_ready (rs := [8]) (by kernel_rfl) (by simp) ?_
          refine AllReadyH.cons rfl (fun K hK => ?_) AllReadyH.nil
          go_simp; go_at_call 10; refine (Note_at A13 2 c13 [(adA, 3), (adB, 4)] 5 _ 1 1 [adA] _ n13 h15 [(adB, 4), (adA, 5)] 2 hN3.out rfl (by omega)).mono ?_; rintro e wx ⟨A16, c16, rfl, n16, m16, hbx⟩; replace hA := (hbx.block _ lA).trans hA; replace hB := (hbx.block _ lB).trans hB; replace lA := Nat.lt_of_lt_of_le lA hbx.size; replace lB := Nat.lt_of_lt_of_le lB hbx.size; replace hb := hb.trans (hbx.mono hb.size); (try replace h9 := (h9.below hbx).more hbx.size); (try replace h12 := (h12.below hbx).more hbx.size); (try replace h15 := (h15.below hbx).more hbx.size); (try replace n10 := (n10.below hbx).more hbx.size); (try replace n13 := (n13.below hbx).more hbx.size); clear hbx; try go_wp2_with fail
          refine hK.out _ _ ?_ (fun hHeld => ?_)
          · (try dsimp only); first | done | (exact ⟨hA, hB, lB⟩)
          clear hK K
          try simp only [Act.put, List.getElem_toArray, List.getElem_cons_succ, List.getElem_cons_zero, List.setIfInBounds_toArray, List.set_cons_zero, List.set_cons_succ]
          first
            | (refine wpAnyH_take (i := 9) (v := ?_) rfl (by kernel_rfl) (by kernel_rfl) (by kernel_rfl) (fun _ _ _ h => h) (Or.inl ⟨by rfl, ?_⟩) hHeld ?_; rotate_left; (intro wq hSw; (try dsimp only at hSw); go_simp; done))
            | (refine wpAnyH_take (i := 9) (v := ?_) rfl (by kernel_rfl) (by kernel_rfl) (by kernel_rfl) (fun _ _ _ h => h) (Or.inl ⟨by rfl, ?_⟩) hHeld ?_; rotate_left; (intro wq hSw; (try dsimp only at hSw); go_simp; with_reducible rfl))
            | refine wpAnyH_take (i := 9) (v := undef) rfl (by kernel_rfl) (by kernel_rfl) (by kernel_rfl) (fun _ _ _ h => h) (Or.inr ⟨by rfl, rfl⟩) hHeld ?_
          try simp only [Act.put, List.getElem_toArray, List.getElem_cons_succ, List.getElem_cons_zero, List.setIfInBounds_toArray, List.set_cons_zero, List.set_cons_succ]
          refine wpAnyH_done (by kernel_rfl) ?_ _
          (have lx := lB; go_wp2_with fail; go_meet; case rel => exact ⟨_, _, rfl, n16, hA, hB, hb, lx⟩)
        refine AllReadyH.cons rfl (fun K hK => ?_) AllReadyH.nil
        refine step_buildAd (by rfl) (.tmp 14) (by rfl) adA (by rfl) ?_; intro B15 wx h15 hbx; replace hA := (hbx.block _ lA).trans hA; replace hB := (hbx.block _ lB).trans hB; replace lA := Nat.lt_of_lt_of_le lA hbx.size; replace lB := Nat.lt_of_lt_of_le lB hbx.size; replace hb := hb.trans (hbx.mono hb.size); (try replace h9 := (h9.below hbx).more hbx.size); (try replace h12 := (h12.below hbx).more hbx.size); (try replace n10 := (n10.below hbx).more hbx.size); (try replace n13 := (n13.below hbx).more hbx.size); clear hbx
        refine hK.out _ _ ?_ (fun hHeld => ?_)
        · (try dsimp only); first | done | (exact ⟨hA, hB, lB⟩)
        clear hK K
        try simp only [Act.put, List.getElem_toArray, List.getElem_cons_succ, List.getElem_cons_zero, List.setIfInBounds_toArray, List.set_cons_zero, List.set_cons_succ]
        refine wpAnyH_ready (rs := [2]) (by kernel_rfl) (by simp) ?_
        refine AllReadyH.cons rfl (fun K hK => ?_) AllReadyH.nil
        go_simp; go_at_call 10; refine (Note_at none 0 0 [] 3 _ 1 1 [adA] _ (Recs.nil_ _ _ _) h9 [(adA, 3)] 1 hN1.out rfl (by omega)).mono ?_; rintro e wx ⟨A10, c10, rfl, n10, m10, hbx⟩; replace hA := (hbx.block _ lA).trans hA; replace hB := (hbx.block _ lB).trans hB; replace lA := Nat.lt_of_lt_of_le lA hbx.size; replace lB := Nat.lt_of_lt_of_le lB hbx.size; replace hb := hb.trans (hbx.mono hb.size); (try replace h9 := (h9.below hbx).more hbx.size); (try replace h12 := (h12.below hbx).more hbx.size); (try replace h15 := (h15.below hbx).more hbx.size); (try replace n13 := (n13.below hbx).more hbx.size); clear hbx; try go_wp2_with fail
        refine hK.out _ _ ?_ (fun hHeld => ?_)
        · (try dsimp only); first | done | (exact ⟨hA, hB, lB⟩)
        clear hK K
        try simp only [Act.put, List.getElem_toArray, List.getElem_cons_succ, List.getElem_cons_zero, List.setIfInBounds_toArray, List.set_cons_zero, List.set_cons_succ]
        refine wpAnyH_ready (rs := [5]) (by kernel_rfl) (by simp) ?_
        refine AllReadyH.cons rfl (fun K hK => ?_) AllReadyH.nil
        go_simp; go_at_call 10; refine (Note_at A10 1 c10 [(adA, 3)] 4 _ 1 1 [adB] _ n10 h12 [(adA, 3), (adB, 4)] 2 hN2.out rfl (by omega)).mono ?_; rintro e wx ⟨A13, c13, rfl, n13, m13, hbx⟩; replace hA := (hbx.block _ lA).trans hA; replace hB := (hbx.block _ lB).trans hB; replace lA := Nat.lt_of_lt_of_le lA hbx.size; replace lB := Nat.lt_of_lt_of_le lB hbx.size; replace hb := hb.trans (hbx.mono hb.size); (try replace h9 := (h9.below hbx).more hbx.size); (try replace h12 := (h12.below hbx).more hbx.size); (try replace h15 := (h15.below hbx).more hbx.size); (try replace n10 := (n10.below hbx).more hbx.size); clear hbx; try go_wp2_with fail
        refine hK.out _ _ ?_ (fun hHeld => ?_)
        · (try dsimp only); first | done | (exact ⟨hA, hB, lB⟩)
        clear hK K
        try simp only [Act.put, List.getElem_toArray, List.getElem_cons_succ, List.getElem_cons_zero, List.setIfInBounds_toArray, List.set_cons_zero, List.set_cons_succ]
        refine wpAnyH_ready (rs := [8]) (by kernel_rfl) (by simp) ?_
        refine AllReadyH.cons rfl (fun K hK => ?_) AllReadyH.nil
        go_simp; go_at_call 10; refine (Note_at A13 2 c13 [(adA, 3), (adB, 4)] 5 _ 1 1 [adA] _ n13 h15 [(adB, 4), (adA, 5)] 2 hN3.out rfl (by omega)).mono ?_; rintro e wx ⟨A16, c16, rfl, n16, m16, hbx⟩; replace hA := (hbx.block _ lA).trans hA; replace hB := (hbx.block _ lB).trans hB; replace lA := Nat.lt_of_lt_of_le lA hbx.size; replace lB := Nat.lt_of_lt_of_le lB hbx.size; replace hb := hb.trans (hbx.mono hb.size); (try replace h9 := (h9.below hbx).more hbx.size); (try replace h12 := (h12.below hbx).more hbx.size); (try replace h15 := (h15.below hbx).more hbx.size); (try replace n10 := (n10.below hbx).more hbx.size); (try replace n13 := (n13.below hbx).more hbx.size); clear hbx; try go_wp2_with fail
        refine hK.out _ _ ?_ (fun hHeld => ?_)
        · (try dsimp only); first | done | (exact ⟨hA, hB, lB⟩)
        clear hK K
        try simp only [Act.put, List.getElem_toArray, List.getElem_cons_succ, List.getElem_cons_zero, List.setIfInBounds_toArray, List.set_cons_zero, List.set_cons_succ]
        first
          | (refine wpAnyH_take (i := 9) (v := ?_) rfl (by kernel_rfl) (by kernel_rfl) (by kernel_rfl) (fun _ _ _ h => h) (Or.inl ⟨by rfl, ?_⟩) hHeld ?_; rotate_left; (intro wq hSw; (try dsimp only at hSw); go_simp; done))
          | (refine wpAnyH_take (i := 9) (v := ?_) rfl (by kernel_rfl) (by kernel_rfl) (by kernel_rfl) (fun _ _ _ h => h) (Or.inl ⟨by rfl, ?_⟩) hHeld ?_; rotate_left; (intro wq hSw; (try dsimp only at hSw); go_simp; with_reducible rfl))
          | refine wpAnyH_take (i := 9) (v := undef) rfl (by kernel_rfl) (by kernel_rfl) (by kernel_rfl) (fun _ _ _ h => h) (Or.inr ⟨by rfl, rfl⟩) hHeld ?_
        try simp only [Act.put, List.getElem_toArray, List.getElem_cons_succ, List.getElem_cons_zero, List.setIfInBounds_toArray, List.set_cons_zero, List.set_cons_succ]
        refine wpAnyH_done (by kernel_rfl) ?_ _
        (have lx := lB; go_wp2_with fail; go_meet; case rel => exact ⟨_, _, rfl, n16, hA, hB, hb, lx⟩)
      refine AllReadyH.cons rfl (fun K hK => ?_) AllReadyH.nil
      refine step_buildAd (by rfl) (.tmp 14) (by rfl) adA (by rfl) ?_; intro B15 wx h15 hbx; replace hA := (hbx.block _ lA).trans hA; replace hB := (hbx.block _ lB).trans hB; replace lA := Nat.lt_of_lt_of_le lA hbx.size; replace lB := Nat.lt_of_lt_of_le lB hbx.size; replace hb := hb.trans (hbx.mono hb.size); (try replace h9 := (h9.below hbx).more hbx.size); (try replace h12 := (h12.below hbx).more hbx.size); (try replace n10 := (n10.below hbx).more hbx.size); (try replace n13 := (n13.below hbx).more hbx.size); clear hbx
      refine hK.out _ _ ?_ (fun hHeld => ?_)
      · (try dsimp only); first | done | (exact ⟨hA, hB, lB⟩)
      clear hK K
      try simp only [Act.put, List.getElem_toArray, List.getElem_cons_succ, List.getElem_cons_zero, List.setIfInBounds_toArray, List.set_cons_zero, List.set_cons_succ]
      refine wpAnyH_ready (rs := [2, 4]) (by kernel_rfl) (by simp) ?_
      refine AllReadyH.cons rfl (fun K hK => ?_) ?_
      ·
        go_simp; go_at_call 10; refine (Note_at none 0 0 [] 3 _ 1 1 [adA] _ (Recs.nil_ _ _ _) h9 [(adA, 3)] 1 hN1.out rfl (by omega)).mono ?_; rintro e wx ⟨A10, c10, rfl, n10, m10, hbx⟩; replace hA := (hbx.block _ lA).trans hA; replace hB := (hbx.block _ lB).trans hB; replace lA := Nat.lt_of_lt_of_le lA hbx.size; replace lB := Nat.lt_of_lt_of_le lB hbx.size; replace hb := hb.trans (hbx.mono hb.size); (try replace h9 := (h9.below hbx).more hbx.size); (try replace h12 := (h12.below hbx).more hbx.size); (try replace h15 := (h15.below hbx).more hbx.size); (try replace n13 := (n13.below hbx).more hbx.size); clear hbx; try go_wp2_with fail
        refine hK.out _ _ ?_ (fun hHeld => ?_)
        · (try dsimp only); first | done | (exact ⟨hA, hB, lB⟩)
        clear hK K
        try simp only [Act.put, List.getElem_toArray, List.getElem_cons_succ, List.getElem_cons_zero, List.setIfInBounds_toArray, List.set_cons_zero, List.set_cons_succ]
        refine wpAnyH_ready (rs := [4]) (by kernel_rfl) (by simp) ?_
        refine AllReadyH.cons rfl (fun K hK => ?_) AllReadyH.nil
        refine step_buildAd (by rfl) (.tmp 11) (by rfl) adB (by rfl) ?_; intro B12 wx h12 hbx; replace hA := (hbx.block _ lA).trans hA; replace hB := (hbx.block _ lB).trans hB; replace lA := Nat.lt_of_lt_of_le lA hbx.size; replace lB := Nat.lt_of_lt_of_le lB hbx.size; replace hb := hb.trans (hbx.mono hb.size); (try replace h9 := (h9.below hbx).more hbx.size); (try replace h15 := (h15.below hbx).more hbx.size); (try replace n10 := (n10.below hbx).more hbx.size); (try replace n13 := (n13.below hbx).more hbx.size); clear hbx
        refine hK.out _ _ ?_ (fun hHeld => ?_)
        · (try dsimp only); first | done | (exact ⟨hA, hB, lB⟩)
        clear hK K
        try simp only [Act.put, List.getElem_toArray, List.getElem_cons_succ, List.getElem_cons_zero, List.setIfInBounds_toArray, List.set_cons_zero, List.set_cons_succ]
        refine wpAnyH_ready (rs := [5]) (by kernel_rfl) (by simp) ?_
        refine AllReadyH.cons rfl (fun K hK => ?_) AllReadyH.nil
        go_simp; go_at_call 10; refine (Note_at A10 1 c10 [(adA, 3)] 4 _ 1 1 [adB] _ n10 h12 [(adA, 3), (adB, 4)] 2 hN2.out rfl (by omega)).mono ?_; rintro e wx ⟨A13, c13, rfl, n13, m13, hbx⟩; replace hA := (hbx.block _ lA).trans hA; replace hB := (hbx.block _ lB).trans hB; replace lA := Nat.lt_of_lt_of_le lA hbx.size; replace lB := Nat.lt_of_lt_of_le lB hbx.size; replace hb := hb.trans (hbx.mono hb.size); (try replace h9 := (h9.below hbx).more hbx.size); (try replace h12 := (h12.below hbx).more hbx.size); (try replace h15 := (h15.below hbx).more hbx.size); (try replace n10 := (n10.below hbx).more hbx.size); clear hbx; try go_wp2_with fail
        refine hK.out _ _ ?_ (fun hHeld => ?_)
        · (try dsimp only); first | done | (exact ⟨hA, hB, lB⟩)
        clear hK K
        try simp only [Act.put, List.getElem_toArray, List.getElem_cons_succ, List.getElem_cons_zero, List.setIfInBounds_toArray, List.set_cons_zero, List.set_cons_succ]
        refine wpAnyH_ready (rs := [8]) (by kernel_rfl) (by simp) ?_
        refine AllReadyH.cons rfl (fun K hK => ?_) AllReadyH.nil
        go_simp; go_at_call 10; refine (Note_at A13 2 c13 [(adA, 3), (adB, 4)] 5 _ 1 1 [adA] _ n13 h15 [(adB, 4), (adA, 5)] 2 hN3.out rfl (by omega)).mono ?_; rintro e wx ⟨A16, c16, rfl, n16, m16, hbx⟩; replace hA := (hbx.block _ lA).trans hA; replace hB := (hbx.block _ lB).trans hB; replace lA := Nat.lt_of_lt_of_le lA hbx.size; replace lB := Nat.lt_of_lt_of_le lB hbx.size; replace hb := hb.trans (hbx.mono hb.size); (try replace h9 := (h9.below hbx).more hbx.size); (try replace h12 := (h12.below hbx).more hbx.size); (try replace h15 := (h15.below hbx).more hbx.size); (try replace n10 := (n10.below hbx).more hbx.size); (try replace n13 := (n13.below hbx).more hbx.size); clear hbx; try go_wp2_with fail
        refine hK.out _ _ ?_ (fun hHeld => ?_)
        · (try dsimp only); first | done | (exact ⟨hA, hB, lB⟩)
        clear hK K
        try simp only [Act.put, List.getElem_toArray, List.getElem_cons_succ, List.getElem_cons_zero, List.setIfInBounds_toArray, List.set_cons_zero, List.set_cons_succ]
        first
          | (refine wpAnyH_take (i := 9) (v := ?_) rfl (by kernel_rfl) (by kernel_rfl) (by kernel_rfl) (fun _ _ _ h => h) (Or.inl ⟨by rfl, ?_⟩) hHeld ?_; rotate_left; (intro wq hSw; (try dsimp only at hSw); go_simp; done))
          | (refine wpAnyH_take (i := 9) (v := ?_) rfl (by kernel_rfl) (by kernel_rfl) (by kernel_rfl) (fun _ _ _ h => h) (Or.inl ⟨by rfl, ?_⟩) hHeld ?_; rotate_left; (intro wq hSw; (try dsimp only at hSw); go_simp; with_reducible rfl))
          | refine wpAnyH_take (i := 9) (v := undef) rfl (by kernel_rfl) (by kernel_rfl) (by kernel_rfl) (fun _ _ _ h => h) (Or.inr ⟨by rfl, rfl⟩) hHeld ?_
        try simp only [Act.put, List.getElem_toArray, List.getElem_cons_succ, List.getElem_cons_zero, List.setIfInBounds_toArray, List.set_cons_zero, List.set_cons_succ]
        refine wpAnyH_done (by kernel_rfl) ?_ _
        (have lx := lB; go_wp2_with fail; go_meet; case rel => exact ⟨_, _, rfl, n16, hA, hB, hb, lx⟩)
      refine AllReadyH.cons rfl (fun K hK => ?_) AllReadyH.nil
      refine step_buildAd (by rfl) (.tmp 11) (by rfl) adB (by rfl) ?_; intro B12 wx h12 hbx; replace hA := (hbx.block _ lA).trans hA; replace hB := (hbx.block _ lB).trans hB; replace lA := Nat.lt_of_lt_of_le lA hbx.size; replace lB := Nat.lt_of_lt_of_le lB hbx.size; replace hb := hb.trans (hbx.mono hb.size); (try replace h9 := (h9.below hbx).more hbx.size); (try replace h15 := (h15.below hbx).more hbx.size); (try replace n10 := (n10.below hbx).more hbx.size); (try replace n13 := (n13.below hbx).more hbx.size); clear hbx
      refine hK.out _ _ ?_ (fun hHeld => ?_)
      · (try dsimp only); first | done | (exact ⟨hA, hB, lB⟩)
      clear hK K
      try simp only [Act.put, List.getElem_toArray, List.getElem_cons_succ, List.getElem_cons_zero, List.setIfInBounds_toArray, List.set_cons_zero, List.set_cons_succ]
      refine wpAnyH_ready (rs := [2]) (by kernel_rfl) (by simp) ?_
      refine AllReadyH.cons rfl (fun K hK => ?_) AllReadyH.nil
      go_simp; go_at_call 10; refine (Note_at none 0 0 [] 3 _ 1 1 [adA] _ (Recs.nil_ _ _ _) h9 [(adA, 3)] 1 hN1.out rfl (by omega)).mono ?_; rintro e wx ⟨A10, c10, rfl, n10, m10, hbx⟩; replace hA := (hbx.block _ lA).trans hA; replace hB := (hbx.block _ lB).trans hB; replace lA := Nat.lt_of_lt_of_le lA hbx.size; replace lB := Nat.lt_of_lt_of_le lB hbx.size; replace hb := hb.trans (hbx.mono hb.size); (try replace h9 := (h9.below hbx).more hbx.size); (try replace h12 := (h12.below hbx).more hbx.size); (try replace h15 := (h15.below hbx).more hbx.size); (try replace n13 := (n13.below hbx).more hbx.size); clear hbx; try go_wp2_with fail
      refine hK.out _ _ ?_ (fun hHeld => ?_)
      · (try dsimp only); first | done | (exact ⟨hA, hB, lB⟩)
      clear hK K
      try simp only [Act.put, List.getElem_toArray, List.getElem_cons_succ, List.getElem_cons_zero, List.setIfInBounds_toArray, List.set_cons_zero, List.set_cons_succ]
      refine wpAnyH_ready (rs := [5]) (by kernel_rfl) (by simp) ?_
      refine AllReadyH.cons rfl (fun K hK => ?_) AllReadyH.nil
      go_simp; go_at_call 10; refine (Note_at A10 1 c10 [(adA, 3)] 4 _ 1 1 [adB] _ n10 h12 [(adA, 3), (adB, 4)] 2 hN2.out rfl (by omega)).mono ?_; rintro e wx ⟨A13, c13, rfl, n13, m13, hbx⟩; replace hA := (hbx.block _ lA).trans hA; replace hB := (hbx.block _ lB).trans hB; replace lA := Nat.lt_of_lt_of_le lA hbx.size; replace lB := Nat.lt_of_lt_of_le lB hbx.size; replace hb := hb.trans (hbx.mono hb.size); (try replace h9 := (h9.below hbx).more hbx.size); (try replace h12 := (h12.below hbx).more hbx.size); (try replace h15 := (h15.below hbx).more hbx.size); (try replace n10 := (n10.below hbx).more hbx.size); clear hbx; try go_wp2_with fail
      refine hK.out _ _ ?_ (fun hHeld => ?_)
      · (try dsimp only); first | done | (exact ⟨hA, hB, lB⟩)
      clear hK K
      try simp only [Act.put, List.getElem_toArray, List.getElem_cons_succ, List.getElem_cons_zero, List.setIfInBounds_toArray, List.set_cons_zero, List.set_cons_succ]
      refine wpAnyH_ready (rs := [8]) (by kernel_rfl) (by simp) ?_
      refine AllReadyH.cons rfl (fun K hK => ?_) AllReadyH.nil
      go_simp; go_at_call 10; refine (Note_at A13 2 c13 [(adA, 3), (adB, 4)] 5 _ 1 1 [adA] _ n13 h15 [(adB, 4), (adA, 5)] 2 hN3.out rfl (by omega)).mono ?_; rintro e wx ⟨A16, c16, rfl, n16, m16, hbx⟩; replace hA := (hbx.block _ lA).trans hA; replace hB := (hbx.block _ lB).trans hB; replace lA := Nat.lt_of_lt_of_le lA hbx.size; replace lB := Nat.lt_of_lt_of_le lB hbx.size; replace hb := hb.trans (hbx.mono hb.size); (try replace h9 := (h9.below hbx).more hbx.size); (try replace h12 := (h12.below hbx).more hbx.size); (try replace h15 := (h15.below hbx).more hbx.size); (try replace n10 := (n10.below hbx).more hbx.size); (try replace n13 := (n13.below hbx).more hbx.size); clear hbx; try go_wp2_with fail
      refine hK.out _ _ ?_ (fun hHeld => ?_)
      · (try dsimp only); first | done | (exact ⟨hA, hB, lB⟩)
      clear hK K
      try simp only [Act.put, List.getElem_toArray, List.getElem_cons_succ, List.getElem_cons_zero, List.setIfInBounds_toArray, List.set_cons_zero, List.set_cons_succ]
      first
        | (refine wpAnyH_take (i := 9) (v := ?_) rfl (by kernel_rfl) (by kernel_rfl) (by kernel_rfl) (fun _ _ _ h => h) (Or.inl ⟨by rfl, ?_⟩) hHeld ?_; rotate_left; (intro wq hSw; (try dsimp only at hSw); go_simp; done))
        | (refine wpAnyH_take (i := 9) (v := ?_) rfl (by kernel_rfl) (by kernel_rfl) (by kernel_rfl) (fun _ _ _ h => h) (Or.inl ⟨by rfl, ?_⟩) hHeld ?_; rotate_left; (intro wq hSw; (try dsimp only at hSw); go_simp; with_reducible rfl))
        | refine wpAnyH_take (i := 9) (v := undef) rfl (by kernel_rfl) (by kernel_rfl) (by kernel_rfl) (fun _ _ _ h => h) (Or.inr ⟨by rfl, rfl⟩) hHeld ?_
      try simp only [Act.put, List.getElem_toArray, List.getElem_cons_succ, List.getElem_cons_zero, List.setIfInBounds_toArray, List.set_cons_zero, List.set_cons_succ]
      refine wpAnyH_done (by kernel_rfl) ?_ _
      (have lx := lB; go_wp2_with fail; go_meet; case rel => exact ⟨_, _, rfl, n16, hA, hB, hb, lx⟩)
    refine AllReadyH.cons rfl (fun K hK => ?_) ?_
    ·
      refine step_buildAd (by rfl) (.tmp 11) (by rfl) adB (by rfl) ?_; intro B12 wx h12 hbx; replace hA := (hbx.block _ lA).trans hA; replace hB := (hbx.block _ lB).trans hB; replace lA := Nat.lt_of_lt_of_le lA hbx.size; replace lB := Nat.lt_of_lt_of_le lB hbx.size; replace hb := hb.trans (hbx.mono hb.size); (try replace h9 := (h9.below hbx).more hbx.size); (try replace h15 := (h15.below hbx).more hbx.size); (try replace n10 := (n10.below hbx).more hbx.size); (try replace n13 := (n13.below hbx).more hbx.size); clear hbx
      refine hK.out _ _ ?_ (fun hHeld => ?_)
      · (try dsimp only); first | done | (exact ⟨hA, hB, lB⟩)
      clear hK K
      try simp only [Act.put, List.getElem_toArray, List.getElem_cons_succ, List.getElem_cons_zero, List.setIfInBounds_toArray, List.set_cons_zero, List.set_cons_succ]
      refine wpAnyH_ready (rs := [1, 7]) (by kernel_rfl) (by simp) ?_
      refine AllReadyH.cons rfl (fun K hK => ?_) ?_
      ·
        refine step_buildAd (by rfl) (.tmp 8) (by rfl) adA (by rfl) ?_; intro B9 wx h9 hbx; replace hA := (hbx.block _ lA).trans hA; replace hB := (hbx.block _ lB).trans hB; replace lA := Nat.lt_of_lt_of_le lA hbx.size; replace lB := Nat.lt_of_lt_of_le lB hbx.size; replace hb := hb.trans (hbx.mono hb.size); (try replace h12 := (h12.below hbx).more hbx.size); (try replace h15 := (h15.below hbx).more hbx.size); (try replace n10 := (n10.below hbx).more hbx.size); (try replace n13 := (n13.below hbx).more hbx.size); clear hbx
        refine hK.out _ _ ?_ (fun hHeld => ?_)
        · (try dsimp only); first | done | (exact ⟨hA, hB, lB⟩)
        clear hK K
        try simp only [Act.put, List.getElem_toArray, List.getElem_cons_succ, List.getElem_cons_zero, List.setIfInBounds_toArray, List.set_cons_zero, List.set_cons_succ]
        refine wpAnyH_ready (rs := [2, 7]) (by kernel_rfl) (by simp) ?_
        refine AllReadyH.cons rfl (fun K hK => ?_) ?_
        ·
          go_simp; go_at_call 10; refine (Note_at none 0 0 [] 3 _ 1 1 [adA] _ (Recs.nil_ _ _ _) h9 [(adA, 3)] 1 hN1.out rfl (by omega)).mono ?_; rintro e wx ⟨A10, c10, rfl, n10, m10, hbx⟩; replace hA := (hbx.block _ lA).trans hA; replace hB := (hbx.block _ lB).trans hB; replace lA := Nat.lt_of_lt_of_le lA hbx.size; replace lB := Nat.lt_of_lt_of_le lB hbx.size; replace hb := hb.trans (hbx.mono hb.size); (try replace h9 := (h9.below hbx).more hbx.size); (try replace h12 := (h12.below hbx).more hbx.size); (try replace h15 := (h15.below hbx).more hbx.size); (try replace n13 := (n13.below hbx).more hbx.size); clear hbx; try go_wp2_with fail
          refine hK.out _ _ ?_ (fun hHeld => ?_)
          · (try dsimp only); first | done | (exact ⟨hA, hB, lB⟩)
          clear hK K
          try simp only [Act.put, List.getElem_toArray, List.getElem_cons_succ, List.getElem_cons_zero, List.setIfInBounds_toArray, List.set_cons_zero, List.set_cons_succ]
          refine wpAnyH_ready (rs := [5, 7]) (by kernel_rfl) (by simp) ?_
          refine AllReadyH.cons rfl (fun K hK => ?_) ?_
          ·
            go_simp; go_at_call 10; refine (Note_at A10 1 c10 [(adA, 3)] 4 _ 1 1 [adB] _ n10 h12 [(adA, 3), (adB, 4)] 2 hN2.out rfl (by omega)).mono ?_; rintro e wx ⟨A13, c13, rfl, n13, m13, hbx⟩; replace hA := (hbx.block _ lA).trans hA; replace hB := (hbx.block _ lB).trans hB; replace lA := Nat.lt_of_lt_of_le lA hbx.size; replace lB := Nat.lt_of_lt_of_le lB hbx.size; replace hb := hb.trans (hbx.mono hb.size); (try replace h9 := (h9.below hbx).more hbx.size); (try replace h12 := (h12.below hbx).more hbx.size); (try replace h15 := (h15.below hbx).more hbx.size); (try replace n10 := (n10.below hbx).more hbx.size); clear hbx; try go_wp2_with fail
            refine hK.out _ _ ?_ (fun hHeld => ?_)
            · (try dsimp only); first | done | (exact ⟨hA, hB, lB⟩)
            clear hK K
            try simp only [Act.put, List.getElem_toArray, List.getElem_cons_succ, List.getElem_cons_zero, List.setIfInBounds_toArray, List.set_cons_zero, List.set_cons_succ]
            refine wpAnyH_ready (rs := [7]) (by kernel_rfl) (by simp) ?_
            refine AllReadyH.cons rfl (fun K hK => ?_) AllReadyH.nil
            refine step_buildAd (by rfl) (.tmp 14) (by rfl) adA (by rfl) ?_; intro B15 wx h15 hbx; replace hA := (hbx.block _ lA).trans hA; replace hB := (hbx.block _ lB).trans hB; replace lA := Nat.lt_of_lt_of_le lA hbx.size; replace lB := Nat.lt_of_lt_of_le lB hbx.size; replace hb := hb.trans (hbx.mono hb.size); (try replace h9 := (h9.below hbx).more hbx.size); (try replace h12 := (h12.below hbx).more hbx.size); (try replace n10 := (n10.below hbx).more hbx.size); (try replace n13 := (n13.below hbx).more hbx.size); clear hbx
            refine hK.out _ _ ?_ (fun hHeld => ?_)
            · (try dsimp only); first | done | (exact ⟨hA, hB, lB⟩)
            clear hK K
            try simp only [Act.put, List.getElem_toArray, List.getElem_cons_succ, List.getElem_cons_zero, List.setIfInBounds_toArray, List.set_cons_zero, List.set_cons_succ]
            refine wpAnyH_ready (rs := [8]) (by kernel_rfl) (by simp) ?_
            refine AllReadyH.cons rfl (fun K hK => ?_) AllReadyH.nil
            go_simp; go_at_call 10; refine (Note_at A13 2 c13 [(adA, 3), (adB, 4)] 5 _ 1 1 [adA] _ n13 h15 [(adB, 4), (adA, 5)] 2 hN3.out rfl (by omega)).mono ?_; rintro e wx ⟨A16, c16, rfl, n16, m16, hbx⟩; replace hA := (hbx.block _ lA).trans hA; replace hB := (hbx.block _ lB).trans hB; replace lA := Nat.lt_of_lt_of_le lA hbx.size; replace lB := Nat.lt_of_lt_of_le lB hbx.size; replace hb := hb.trans (hbx.mono hb.size); (try replace h9 := (h9.below hbx).more hbx.size); (try replace h12 := (h12.below hbx).more hbx.size); (try replace h15 := (h15.below hbx).more hbx.size); (try replace n10 := (n10.below hbx).more hbx.size); (try replace n13 := (n13.below hbx).more hbx.size); clear hbx; try go_wp2_with fail
            refine hK.out _ _ ?_ (fun hHeld => ?_)
            · (try dsimp only); first | done | (exact ⟨hA, hB, lB⟩)
            clear hK K
            try simp only [Act.put, List.getElem_toArray, List.getElem_cons_succ, List.getElem_cons_zero, List.setIfInBounds_toArray, List.set_cons_zero, List.set_cons_succ]
            first
              | (refine wpAnyH_take (i := 9) (v := ?_) rfl (by kernel_rfl) (by kernel_rfl) (by kernel_rfl) (fun _ _ _ h => h) (Or.inl ⟨by rfl, ?_⟩) hHeld ?_; rotate_left; (intro wq hSw; (try dsimp only at hSw); go_simp; done))
              | (refine wpAnyH_take (i := 9) (v := ?_) rfl (by kernel_rfl) (by kernel_rfl) (by kernel_rfl) (fun _ _ _ h => h) (Or.inl ⟨by rfl, ?_⟩) hHeld ?_; rotate_left; (intro wq hSw; (try dsimp only at hSw); go_simp; with_reducible rfl))
              | refine wpAnyH_take (i := 9) (v := undef) rfl (by kernel_rfl) (by kernel_rfl) (by kernel_rfl) (fun _ _ _ h => h) (Or.inr ⟨by rfl, rfl⟩) hHeld ?_
            try simp only [Act.put, List.getElem_toArray, List.getElem_cons_succ, List.getElem_cons_zero, List.setIfInBounds_toArray, List.set_cons_zero, List.set_cons_succ]
            refine wpAnyH_done (by kernel_rfl) ?_ _
            (have lx := lB; go_wp2_with fail; go_meet; case rel => exact ⟨_, _, rfl, n16, hA, hB, hb, lx⟩)
          refine AllReadyH.cons rfl (fun K hK => ?_) AllReadyH.nil
          refine step_buildAd (by rfl) (.tmp 14) (by rfl) adA (by rfl) ?_; intro B15 wx h15 hbx; replace hA := (hbx.block _ lA).trans hA; replace hB := (hbx.block _ lB).trans hB; replace lA := Nat.lt_of_lt_of_le lA hbx.size; replace lB := Nat.lt_of_lt_of_le lB hbx.size; replace hb := hb.trans (hbx.mono hb.size); (try replace h9 := (h9.below hbx).more hbx.size); (try replace h12 := (h12.below hbx).more hbx.size); (try replace n10 := (n10.below hbx).more hbx.size); (try replace n13 := (n13.below hbx).more hbx.size); clear hbx
          refine hK.out _ _ ?_ (fun hHeld => ?_)
          · (try dsimp only); first | done | (exact ⟨hA, hB, lB⟩)
          clear hK K
          try simp only [Act.put, List.getElem_toArray, List.getElem_cons_succ, List.getElem_cons_zero, List.setIfInBounds_toArray, List.set_cons_zero, List.set_cons_succ]
          refine wpAnyH_ready (rs := [5]) (by kernel_rfl) (by simp) ?_
          refine AllReadyH.cons rfl (fun K hK => ?_) AllReadyH.nil
          go_simp; go_at_call 10; refine (Note_at A10 1 c10 [(adA, 3)] 4 _ 1 1 [adB] _ n10 h12 [(adA, 3), (adB, 4)] 2 hN2.out rfl (by omega)).mono ?_; rintro e wx ⟨A13, c13, rfl, n13, m13, hbx⟩; replace hA := (hbx.block _ lA).trans hA; replace hB := (hbx.block _ lB).trans hB; replace lA := Nat.lt_of_lt_of_le lA hbx.size; replace lB := Nat.lt_of_lt_of_le lB hbx.size; replace hb := hb.trans (hbx.mono hb.size); (try replace h9 := (h9.below hbx).more hbx.size); (try replace h12 := (h12.below hbx).more hbx.size); (try replace h15 := (h15.below hbx).more hbx.size); (try replace n10 := (n10.below hbx).more hbx.size); clear hbx; try go_wp2_with fail
          refine hK.out _ _ ?_ (fun hHeld => ?_)
          · (try dsimp only); first | done | (exact ⟨hA, hB, lB⟩)
          clear hK K
          try simp only [Act.put, List.getElem_toArray, List.getElem_cons_succ, List.getElem_cons_zero, List.setIfInBounds_toArray, List.set_cons_zero, List.set_cons_succ]
          refine wpAnyH_ready (rs := [8]) (by kernel_rfl) (by simp) ?_
          refine AllReadyH.cons rfl (fun K hK => ?_) AllReadyH.nil
          go_simp; go_at_call 10; refine (Note_at A13 2 c13 [(adA, 3), (adB, 4)] 5 _ 1 1 [adA] _ n13 h15 [(adB, 4), (adA, 5)] 2 hN3.out rfl (by omega)).mono ?_; rintro e wx ⟨A16, c16, rfl, n16, m16, hbx⟩; replace hA := (hbx.block _ lA).trans hA; replace hB := (hbx.block _ lB).trans hB; replace lA := Nat.lt_of_lt_of_le lA hbx.size; replace lB := Nat.lt_of_lt_of_le lB hbx.size; replace hb := hb.trans (hbx.mono hb.size); (try replace h9 := (h9.below hbx).more hbx.size); (try replace h12 := (h12.below hbx).more hbx.size); (try replace h15 := (h15.below hbx).more hbx.size); (try replace n10 := (n10.below hbx).more hbx.size); (try replace n13 := (n13.below hbx).more hbx.size); clear hbx; try go_wp2_with fail
          refine hK.out _ _ ?_ (fun hHeld => ?_)
          · (try dsimp only); first | done | (exact ⟨hA, hB, lB⟩)
          clear hK K
          try simp only [Act.put, List.getElem_toArray, List.getElem_cons_succ, List.getElem_cons_zero, List.setIfInBounds_toArray, List.set_cons_zero, List.set_cons_succ]
          first
            | (refine wpAnyH_take (i := 9) (v := ?_) rfl (by kernel_rfl) (by kernel_rfl) (by kernel_rfl) (fun _ _ _ h => h) (Or.inl ⟨by rfl, ?_⟩) hHeld ?_; rotate_left; (intro wq hSw; (try dsimp only at hSw); go_simp; done))
            | (refine wpAnyH_take (i := 9) (v := ?_) rfl (by kernel_rfl) (by kernel_rfl) (by kernel_rfl) (fun _ _ _ h => h) (Or.inl ⟨by rfl, ?_⟩) hHeld ?_; rotate_left; (intro wq hSw; (try dsimp only at hSw); go_simp; with_reducible rfl))
            | refine wpAnyH_take (i := 9) (v := undef) rfl (by kernel_rfl) (by kernel_rfl) (by kernel_rfl) (fun _ _ _ h => h) (Or.inr ⟨by rfl, rfl⟩) hHeld ?_
          try simp only [Act.put, List.getElem_toArray, List.getElem_cons_succ, List.getElem_cons_zero, List.setIfInBounds_toArray, List.set_cons_zero, List.set_cons_succ]
          refine wpAnyH_done (by kernel_rfl) ?_ _
          (have lx := lB; go_wp2_with fail; go_meet; case rel => exact ⟨_, _, rfl, n16, hA, hB, hb, lx⟩)
        refine AllReadyH.cons rfl (fun K hK => ?_) AllReadyH.nil
        refine step_buildAd (by rfl) (.tmp 14) (by rfl) adA (by rfl) ?_; intro B15 wx h15 hbx; replace hA := (hbx.block _ lA).trans hA; replace hB := (hbx.block _ lB).trans hB; replace lA := Nat.lt_of_lt_of_le lA hbx.size; replace lB := Nat.lt_of_lt_of_le lB hbx.size; replace hb := hb.trans (hbx.mono hb.size); (try replace h9 := (h9.below hbx).more hbx.size); (try replace h12 := (h12.below hbx).more hbx.size); (try replace n10 := (n10.below hbx).more hbx.size); (try replace n13 := (n13.below hbx).more hbx.size); clear hbx
        refine hK.out _ _ ?_ (fun hHeld => ?_)
        · (try dsimp only); first | done | (exact ⟨hA, hB, lB⟩)
        clear hK K
        try simp only [Act.put, List.getElem_toArray, List.getElem_cons_succ, List.getElem_cons_zero, List.setIfInBounds_toArray, List.set_cons_zero, List.set_cons_succ]
        refine wpAnyH_ready (rs := [2]) (by kernel_rfl) (by simp) ?_
        refine AllReadyH.cons rfl (fun K hK => ?_) AllReadyH.nil
        go_simp; go_at_call 10; refine (Note_at none 0 0 [] 3 _ 1 1 [adA] _ (Recs.nil_ _ _ _) h9 [(adA, 3)] 1 hN1.out rfl (by omega)).mono ?_; rintro e wx ⟨A10, c10, rfl, n10, m10, hbx⟩; replace hA := (hbx.block _ lA).trans hA; replace hB := (hbx.block _ lB).trans hB; replace lA := Nat.lt_of_lt_of_le lA hbx.size; replace lB := Nat.lt_of_lt_of_le lB hbx.size; replace hb := hb.trans (hbx.mono hb.size); (try replace h9 := (h9.below hbx).more hbx.size); (try replace h12 := (h12.below hbx).more hbx.size); (try replace h15 := (h15.below hbx).more hbx.size); (try replace n13 := (n13.below hbx).more hbx.size); clear hbx; try go_wp2_with fail
        refine hK.out _ _ ?_ (fun hHeld => ?_)
        · (try dsimp only); first | done | (exact ⟨hA, hB, lB⟩)
        clear hK K
        try simp only [Act.put, List.getElem_toArray, List.getElem_cons_succ, List.getElem_cons_zero, List.setIfInBounds_toArray, List.set_cons_zero, List.set_cons_succ]
        refine wpAnyH_ready (rs := [5]) (by kernel_rfl) (by simp) ?_
        refine AllReadyH.cons rfl (fun K hK => ?_) AllReadyH.nil
        go_simp; go_at_call 10; refine (Note_at A10 1 c10 [(adA, 3)] 4 _ 1 1 [adB] _ n10 h12 [(adA, 3), (adB, 4)] 2 hN2.out rfl (by omega)).mono ?_; rintro e wx ⟨A13, c13, rfl, n13, m13, hbx⟩; replace hA := (hbx.block _ lA).trans hA; replace hB := (hbx.block _ lB).trans hB; replace lA := Nat.lt_of_lt_of_le lA hbx.size; replace lB := Nat.lt_of_lt_of_le lB hbx.size; replace hb := hb.trans (hbx.mono hb.size); (try replace h9 := (h9.below hbx).more hbx.size); (try replace h12 := (h12.below hbx).more hbx.size); (try replace h15 := (h15.below hbx).more hbx.size); (try replace n10 := (n10.below hbx).more hbx.size); clear hbx; try go_wp2_with fail
        refine hK.out _ _ ?_ (fun hHeld => ?_)
        · (try dsimp only); first | done | (exact ⟨hA, hB, lB⟩)
        clear hK K
        try simp only [Act.put, List.getElem_toArray, List.getElem_cons_succ, List.getElem_cons_zero, List.setIfInBounds_toArray, List.set_cons_zero, List.set_cons_succ]
        refine wpAnyH_ready (rs := [8]) (by kernel_rfl) (by simp) ?_
        refine AllReadyH.cons rfl (fun K hK => ?_) AllReadyH.nil
        go_simp; go_at_call 10; refine (Note_at A13 2 c13 [(adA, 3), (adB, 4)] 5 _ 1 1 [adA] _ n13 h15 [(adB, 4), (adA, 5)] 2 hN3.out rfl (by omega)).mono ?_; rintro e wx ⟨A16, c16, rfl, n16, m16, hbx⟩; replace hA := (hbx.block _ lA).trans hA; replace hB := (hbx.block _ lB).trans hB; replace lA := Nat.lt_of_lt_of_le lA hbx.size; replace lB := Nat.lt_of_lt_of_le lB hbx.size; replace hb := hb.trans (hbx.mono hb.size); (try replace h9 := (h9.below hbx).more hbx.size); (try replace h12 := (h12.below hbx).more hbx.size); (try replace h15 := (h15.below hbx).more hbx.size); (try replace n10 := (n10.below hbx).more hbx.size); (try replace n13 := (n13.below hbx).more hbx.size); clear hbx; try go_wp2_with fail
        refine hK.out _ _ ?_ (fun hHeld => ?_)
        · (try dsimp only); first | done | (exact ⟨hA, hB, lB⟩)
        clear hK K
        try simp only [Act.put, List.getElem_toArray, List.getElem_cons_succ, List.getElem_cons_zero, List.setIfInBounds_toArray, List.set_cons_zero, List.set_cons_succ]
        first
          | (refine wpAnyH_take (i := 9) (v := ?_) rfl (by kernel_rfl) (by kernel_rfl) (by kernel_rfl) (fun _ _ _ h => h) (Or.inl ⟨by rfl, ?_⟩) hHeld ?_; rotate_left; (intro wq hSw; (try dsimp only at hSw); go_simp; done))
          | (refine wpAnyH_take (i := 9) (v := ?_) rfl (by kernel_rfl) (by kernel_rfl) (by kernel_rfl) (fun _ _ _ h => h) (Or.inl ⟨by rfl, ?_⟩) hHeld ?_; rotate_left; (intro wq hSw; (try dsimp only at hSw); go_simp; with_reducible rfl))
          | refine wpAnyH_take (i := 9) (v := undef) rfl (by kernel_rfl) (by kernel_rfl) (by kernel_rfl) (fun _ _ _ h => h) (Or.inr ⟨by rfl, rfl⟩) hHeld ?_
        try simp only [Act.put, List.getElem_toArray, List.getElem_cons_succ, List.getElem_cons_zero, List.setIfInBounds_toArray, List.set_cons_zero, List.set_cons_succ]
        refine wpAnyH_done (by kernel_rfl) ?_ _
        (have lx := lB; go_wp2_with fail; go_meet; case rel => exact ⟨_, _, rfl, n16, hA, hB, hb, lx⟩)
      refine AllReadyH.cons rfl (fun K hK => ?_) AllReadyH.nil
      refine step_buildAd (by rfl) (.tmp 14) (by rfl) adA (by rfl) ?_; intro B15 wx h15 hbx; replace hA := (hbx.block _ lA).trans hA; replace hB := (hbx.block _ lB).trans hB; replace lA := Nat.lt_of_lt_of_le lA hbx.size; replace lB := Nat.lt_of_lt_of_le lB hbx.size; replace hb := hb.trans (hbx.mono hb.size); (try replace h9 := (h9.below hbx).more hbx.size); (try replace h12 := (h12.below hbx).more hbx.size); (try replace n10 := (n10.below hbx).more hbx.size); (try replace n13 := (n13.below hbx).more hbx.size); clear hbx
      refine hK.out _ _ ?_ (fun hHeld => ?_)
      · (try dsimp only); first | done | (exact ⟨hA, hB, lB⟩)
      clear hK K
      try simp only [Act.put, List.getElem_toArray, List.getElem_cons_succ, List.getElem_cons_zero, List.setIfInBounds_toArray, List.set_cons_zero, List.set_cons_succ]
      refine wpAnyH_ready (rs := [1]) (by kernel_rfl) (by simp) ?_
      refine AllReadyH.cons rfl (fun K hK => ?_) AllReadyH.nil
      refine step_buildAd (by rfl) (.tmp 8) (by rfl) adA (by rfl) ?_; intro B9 wx h9 hbx; replace hA := (hbx.block _ lA).trans hA; replace hB := (hbx.block _ lB).trans hB; replace lA := Nat.lt_of_lt_of_le lA hbx.size; replace lB := Nat.lt_of_lt_of_le lB hbx.size; replace hb := hb.trans (hbx.mono hb.size); (try replace h12 := (h12.below hbx).more hbx.size); (try replace h15 := (h15.below hbx).more hbx.size); (try replace n10 := (n10.below hbx).more hbx.size); (try replace n13 := (n13.below hbx).more hbx.size); clear hbx
      refine hK.out _ _ ?_ (fun hHeld => ?_)
      · (try dsimp only); first | done | (exact ⟨hA, hB, lB⟩)
      clear hK K
      try simp only [Act.put, List.getElem_toArray, List.getElem_cons_succ, List.getElem_cons_zero, List.setIfInBounds_toArray, List.set_cons_zero, List.set_cons_succ]
      refine wpAnyH_ready (rs := [2]) (by kernel_rfl) (by simp) ?_
      refine AllReadyH.cons rfl (fun K hK => ?_) AllReadyH.nil
      go_simp; go_at_call 10; refine (Note_at none 0 0 [] 3 _ 1 1 [adA] _ (Recs.nil_ _ _ _) h9 [(adA, 3)] 1 hN1.out rfl (by omega)).mono ?_; rintro e wx ⟨A10, c10, rfl, n10, m10, hbx⟩; replace hA := (hbx.block _ lA).trans hA; replace hB := (hbx.block _ lB).trans hB; replace lA := Nat.lt_of_lt_of_le lA hbx.size; replace lB := Nat.lt_of_lt_of_le lB hbx.size; replace hb := hb.trans (hbx.mono hb.size); (try replace h9 := (h9.below hbx).more hbx.size); (try replace h12 := (h12.below hbx).more hbx.size); (try replace h15 := (h15.below hbx).more hbx.size); (try replace n13 := (n13.below hbx).more hbx.size); clear hbx; try go_wp2_with fail
      refine hK.out _ _ ?_ (fun hHeld => ?_)
      · (try dsimp only); first | done | (exact ⟨hA, hB, lB⟩)
      clear hK K
      try simp only [Act.put, List.getElem_toArray, List.getElem_cons_succ, List.getElem_cons_zero, List.setIfInBounds_toArray, List.set_cons_zero, List.set_cons_succ]
      refine wpAnyH_ready (rs := [5]) (by kernel_rfl) (by simp) ?_
      refine AllReadyH.cons rfl (fun K hK => ?_) AllReadyH.nil
      go_simp; go_at_call 10; refine (Note_at A10 1 c10 [(adA, 3)] 4 _ 1 1 [adB] _ n10 h12 [(adA, 3), (adB, 4)] 2 hN2.out rfl (by omega)).mono ?_; rintro e wx ⟨A13, c13, rfl, n13, m13, hbx⟩; replace hA := (hbx.block _ lA).trans hA; replace hB := (hbx.block _ lB).trans hB; replace lA := Nat.lt_of_lt_of_le lA hbx.size; replace lB := Nat.lt_of_lt_of_le lB hbx.size; replace hb := hb.trans (hbx.mono hb.size); (try replace h9 := (h9.below hbx).more hbx.size); (try replace h12 := (h12.below hbx).more hbx.size); (try replace h15 := (h15.below hbx).more hbx.size); (try replace n10 := (n10.below hbx).more hbx.size); clear hbx; try go_wp2_with fail
      refine hK.out _ _ ?_ (fun hHeld => ?_)
      · (try dsimp only); first | done | (exact ⟨hA, hB, lB⟩)
      clear hK K
      try simp only [Act.put, List.getElem_toArray, List.getElem_cons_succ, List.getElem_cons_zero, List.setIfInBounds_toArray, List.set_cons_zero, List.set_cons_succ]
      refine wpAnyH_ready (rs := [8]) (by kernel_rfl) (by simp) ?_
      refine AllReadyH.cons rfl (fun K hK => ?_) AllReadyH.nil
      go_simp; go_at_call 10; refine (Note_at A13 2 c13 [(adA, 3), (adB, 4)] 5 _ 1 1 [adA] _ n13 h15 [(adB, 4), (adA, 5)] 2 hN3.out rfl (by omega)).mono ?_; rintro e wx ⟨A16, c16, rfl, n16, m16, hbx⟩; replace hA := (hbx.block _ lA).trans hA; replace hB := (hbx.block _ lB).trans hB; replace lA := Nat.lt_of_lt_of_le lA hbx.size; replace lB := Nat.lt_of_lt_of_le lB hbx.size; replace hb := hb.trans (hbx.mono hb.size); (try replace h9 := (h9.below hbx).more hbx.size); (try replace h12 := (h12.below hbx).more hbx.size); (try replace h15 := (h15.below hbx).more hbx.size); (try replace n10 := (n10.below hbx).more hbx.size); (try replace n13 := (n13.below hbx).more hbx.size); clear hbx; try go_wp2_with fail
      refine hK.out _ _ ?_ (fun hHeld => ?_)
      · (try dsimp only); first | done | (exact ⟨hA, hB, lB⟩)
      clear hK K
      try simp only [Act.put, List.getElem_toArray, List.getElem_cons_succ, List.getElem_cons_zero, List.setIfInBounds_toArray, List.set_cons_zero, List.set_cons_succ]
      first
        | (refine wpAnyH_take (i := 9) (v := ?_) rfl (by kernel_rfl) (by kernel_rfl) (by kernel_rfl) (fun _ _ _ h => h) (Or.inl ⟨by rfl, ?_⟩) hHeld ?_; rotate_left; (intro wq hSw; (try dsimp only at hSw); go_simp; done))
        | (refine wpAnyH_take (i := 9) (v := ?_) rfl (by kernel_rfl) (by kernel_rfl) (by kernel_rfl) (fun _ _ _ h => h) (Or.inl ⟨by rfl, ?_⟩) hHeld ?_; rotate_left; (intro wq hSw; (try dsimp only at hSw); go_simp; with_reducible rfl))
        | refine wpAnyH_take (i := 9) (v := undef) rfl (by kernel_rfl) (by kernel_rfl) (by kernel_rfl) (fun _ _ _ h => h) (Or.inr ⟨by rfl, rfl⟩) hHeld ?_
      try simp only [Act.put, List.getElem_toArray, List.getElem_cons_succ, List.getElem_cons_zero, List.setIfInBounds_toArray, List.set_cons_zero, List.set_cons_succ]
      refine wpAnyH_done (by kernel_rfl) ?_ _
      (have lx := lB; go_wp2_with fail; go_meet; case rel => exact ⟨_, _, rfl, n16, hA, hB, hb, lx⟩)
    refine AllReadyH.cons rfl (fun K hK => ?_) AllReadyH.nil
    refine step_buildAd (by rfl) (.tmp 14) (by rfl) adA (by rfl) ?_; intro B15 wx h15 hbx; replace hA := (hbx.block _ lA).trans hA; replace hB := (hbx.block _ lB).trans hB; replace lA := Nat.lt_of_lt_of_le lA hbx.size; replace lB := Nat.lt_of_lt_of_le lB hbx.size; replace hb := hb.trans (hbx.mono hb.size); (try replace h9 := (h9.below hbx).more hbx.size); (try replace h12 := (h12.below hbx).more hbx.size); (try replace n10 := (n10.below hbx).more hbx.size); (try replace n13 := (n13.below hbx).more hbx.size); clear hbx
    refine hK.out _ _ ?_ (fun hHeld => ?_)
    · (try dsimp only); first | done | (exact ⟨hA, hB, lB⟩)
    clear hK K
    try simp only [Act.put, List.getElem_toArray, List.getElem_cons_succ, List.getElem_cons_zero, List.setIfInBounds_toArray, List.set_cons_zero, List.set_cons_succ]
    refine wpAnyH_ready (rs := [1, 4]) (by kernel_rfl) (by simp) ?_
    refine AllReadyH.cons rfl (fun K hK => ?_) ?_
    ·
      refine step_buildAd (by rfl) (.tmp 8) (by rfl) adA (by rfl) ?_; intro B9 wx h9 hbx; replace hA := (hbx.block _ lA).trans hA; replace hB := (hbx.block _ lB).trans hB; replace lA := Nat.lt_of_lt_of_le lA hbx.size; replace lB := Nat.lt_of_lt_of_le lB hbx.size; replace hb := hb.trans (hbx.mono hb.size); (try replace h12 := (h12.below hbx).more hbx.size); (try replace h15 := (h15.below hbx).more hbx.size); (try replace n10 := (n10.below hbx).more hbx.size); (try replace n13 := (n13.below hbx).more hbx.size); clear hbx
      refine hK.out _ _ ?_ (fun hHeld => ?_)
      · (try dsimp only); first | done | (exact ⟨hA, hB, lB⟩)
      clear hK K
      try simp only [Act.put, List.getElem_toArray, List.getElem_cons_succ, List.getElem_cons_zero, List.setIfInBounds_toArray, List.set_cons_zero, List.set_cons_succ]
      refine wpAnyH_ready (rs := [2, 4]) (by kernel_rfl) (by simp) ?_
      refine AllReadyH.cons rfl (fun K hK => ?_) ?_
      ·
        go_simp; go_at_call 10; refine (Note_at none 0 0 [] 3 _ 1 1 [adA] _ (Recs.nil_ _ _ _) h9 [(adA, 3)] 1 hN1.out rfl (by omega)).mono ?_; rintro e wx ⟨A10, c10, rfl, n10, m10, hbx⟩; replace hA := (hbx.block _ lA).trans hA; replace hB := (hbx.block _ lB).trans hB; replace lA := Nat.lt_of_lt_of_le lA hbx.size; replace lB := Nat.lt_of_lt_of_le lB hbx.size; replace hb := hb.trans (hbx.mono hb.size); (try replace h9 := (h9.below hbx).more hbx.size); (try replace h12 := (h12.below hbx).more hbx.size); (try replace h15 := (h15.below hbx).more hbx.size); (try replace n13 := (n13.below hbx).more hbx.size); clear hbx; try go_wp2_with fail
        refine hK.out _ _ ?_ (fun hHeld => ?_)
        · (try dsimp only); first | done | (exact ⟨hA, hB, lB⟩)
        clear hK K
        try simp only [Act.put, List.getElem_toArray, List.getElem_cons_succ, List.getElem_cons_zero, List.setIfInBounds_toArray, List.set_cons_zero, List.set_cons_succ]
        refine wpAnyH_ready (rs := [4]) (by kernel_rfl) (by simp) ?_
        refine AllReadyH.cons rfl (fun K hK => ?_) AllReadyH.nil
        refine step_buildAd (by rfl) (.tmp 11) (by rfl) adB (by rfl) ?_; intro B12 wx h12 hbx; replace hA := (hbx.block _ lA).trans hA; replace hB := (hbx.block _ lB).trans hB; replace lA := Nat.lt_of_lt_of_le lA hbx.size; replace lB := Nat.lt_of_lt_of_le lB hbx.size; replace hb := hb.trans (hbx.mono hb.size); (try replace h9 := (h9.below hbx).more hbx.size); (try replace h15 := (h15.below hbx).more hbx.size); (try replace n10 := (n10.below hbx).more hbx.size); (try replace n13 := (n13.below hbx).more hbx.size); clear hbx
        refine hK.out _ _ ?_ (fun hHeld => ?_)
        · (try dsimp only); first | done | (exact ⟨hA, hB, lB⟩)
        clear hK K
        try simp only [Act.put, List.getElem_toArray, List.getElem_cons_succ, List.getElem_cons_zero, List.setIfInBounds_toArray, List.set_cons_zero, List.set_cons_succ]
        refine wpAnyH_ready (rs := [5]) (by kernel_rfl) (by simp) ?_
        refine AllReadyH.cons rfl (fun K hK => ?_) AllReadyH.nil
        go_simp; go_at_call 10; refine (Note_at A10 1 c10 [(adA, 3)] 4 _ 1 1 [adB] _ n10 h12 [(adA, 3), (adB, 4)] 2 hN2.out rfl (by omega)).mono ?_; rintro e wx ⟨A13, c13, rfl, n13, m13, hbx⟩; replace hA := (hbx.block _ lA).trans hA; replace hB := (hbx.block _ lB).trans hB; replace lA := Nat.lt_of_lt_of_le lA hbx.size; replace lB := Nat.lt_of_lt_of_le lB hbx.size; replace hb := hb.trans (hbx.mono hb.size); (try replace h9 := (h9.below hbx).more hbx.size); (try replace h12 := (h12.below hbx).more hbx.size); (try replace h15 := (h15.below hbx).more hbx.size); (try replace n10 := (n10.below hbx).more hbx.size); clear hbx; try go_wp2_with fail
        refine hK.out _ _ ?_ (fun hHeld => ?_)
        · (try dsimp only); first | done | (exact ⟨hA, hB, lB⟩)
        clear hK K
        try simp only [Act.put, List.getElem_toArray, List.getElem_cons_succ, List.getElem_cons_zero, List.setIfInBounds_toArray, List.set_cons_zero, List.set_cons_succ]
        refine wpAnyH_ready (rs := [8]) (by kernel_rfl) (by simp) ?_
        refine AllReadyH.cons rfl (fun K hK => ?_) AllReadyH.nil
        go_simp; go_at_call 10; refine (Note_at A13 2 c13 [(adA, 3), (adB, 4)] 5 _ 1 1 [adA] _ n13 h15 [(adB, 4), (adA, 5)] 2 hN3.out rfl (by omega)).mono ?_; rintro e wx ⟨A16, c16, rfl, n16, m16, hbx⟩; replace hA := (hbx.block _ lA).trans hA; replace hB := (hbx.block _ lB).trans hB; replace lA := Nat.lt_of_lt_of_le lA hbx.size; replace lB := Nat.lt_of_lt_of_le lB hbx.size; replace hb := hb.trans (hbx.mono hb.size); (try replace h9 := (h9.below hbx).more hbx.size); (try replace h12 := (h12.below hbx).more hbx.size); (try replace h15 := (h15.below hbx).more hbx.size); (try replace n10 := (n10.below hbx).more hbx.size); (try replace n13 := (n13.below hbx).more hbx.size); clear hbx; try go_wp2_with fail
        refine hK.out _ _ ?_ (fun hHeld => ?_)
        · (try dsimp only); first | done | (exact ⟨hA, hB, lB⟩)
        clear hK K
        try simp only [Act.put, List.getElem_toArray, List.getElem_cons_succ, List.getElem_cons_zero, List.setIfInBounds_toArray, List.set_cons_zero, List.set_cons_succ]
        first
          | (refine wpAnyH_take (i := 9) (v := ?_) rfl (by kernel_rfl) (by kernel_rfl) (by kernel_rfl) (fun _ _ _ h => h) (Or.inl ⟨by rfl, ?_⟩) hHeld ?_; rotate_left; (intro wq hSw; (try dsimp only at hSw); go_simp; done))
          | (refine wpAnyH_take (i := 9) (v := ?_) rfl (by kernel_rfl) (by kernel_rfl) (by kernel_rfl) (fun _ _ _ h => h) (Or.inl ⟨by rfl, ?_⟩) hHeld ?_; rotate_left; (intro wq hSw; (try dsimp only at hSw); go_simp; with_reducible rfl))
          | refine wpAnyH_take (i := 9) (v := undef) rfl (by kernel_rfl) (by kernel_rfl) (by kernel_rfl) (fun _ _ _ h => h) (Or.inr ⟨by rfl, rfl⟩) hHeld ?_
        try simp only [Act.put, List.getElem_toArray, List.getElem_cons_succ, List.getElem_cons_zero, List.setIfInBounds_toArray, List.set_cons_zero, List.set_cons_succ]
        refine wpAnyH_done (by kernel_rfl) ?_ _
        (have lx := lB; go_wp2_with fail; go_meet; case rel => exact ⟨_, _, rfl, n16, hA, hB, hb, lx⟩)
      refine AllReadyH.cons rfl (fun K hK => ?_) AllReadyH.nil
      refine step_buildAd (by rfl) (.tmp 11) (by rfl) adB (by rfl) ?_; intro B12 wx h12 hbx; replace hA := (hbx.block _ lA).trans hA; replace hB := (hbx.block _ lB).trans hB; replace lA := Nat.lt_of_lt_of_le lA hbx.size; replace lB := Nat.lt_of_lt_of_le lB hbx.size; replace hb := hb.trans (hbx.mono hb.size); (try replace h9 := (h9.below hbx).more hbx.size); (try replace h15 := (h15.below hbx).more hbx.size); (try replace n10 := (n10.below hbx).more hbx.size); (try replace n13 := (n13.below hbx).more hbx.size); clear hbx
      refine hK.out _ _ ?_ (fun hHeld => ?_)
      · (try dsimp only); first | done | (exact ⟨hA, hB, lB⟩)
      clear hK K
      try simp only [Act.put, List.getElem_toArray, List.getElem_cons_succ, List.getElem_cons_zero, List.setIfInBounds_toArray, List.set_cons_zero, List.set_cons_succ]
      refine wpAnyH_ready (rs := [2]) (by kernel_rfl) (by simp) ?_
      refine AllReadyH.cons rfl (fun K hK => ?_) AllReadyH.nil
      go_simp; go_at_call 10; refine (Note_at none 0 0 [] 3 _ 1 1 [adA] _ (Recs.nil_ _ _ _) h9 [(adA, 3)] 1 hN1.out rfl (by omega)).mono ?_; rintro e wx ⟨A10, c10, rfl, n10, m10, hbx⟩; replace hA := (hbx.block _ lA).trans hA; replace hB := (hbx.block _ lB).trans hB; replace lA := Nat.lt_of_lt_of_le lA hbx.size; replace lB := Nat.lt_of_lt_of_le lB hbx.size; replace hb := hb.trans (hbx.mono hb.size); (try replace h9 := (h9.below hbx).more hbx.size); (try replace h12 := (h12.below hbx).more hbx.size); (try replace h15 := (h15.below hbx).more hbx.size); (try replace n13 := (n13.below hbx).more hbx.size); clear hbx; try go_wp2_with fail
      refine hK.out _ _ ?_ (fun hHeld => ?_)
      · (try dsimp only); first | done | (exact ⟨hA, hB, lB⟩)
      clear hK K
      try simp only [Act.put, List.getElem_toArray, List.getElem_cons_succ, List.getElem_cons_zero, List.setIfInBounds_toArray, List.set_cons_zero, List.set_cons_succ]
      refine wpAnyH_ready (rs := [5]) (by kernel_rfl) (by simp) ?_
      refine AllReadyH.cons rfl (fun K hK => ?_) AllReadyH.nil
      go_simp; go_at_call 10; refine (Note_at A10 1 c10 [(adA, 3)] 4 _ 1 1 [adB] _ n10 h12 [(adA, 3), (adB, 4)] 2 hN2.out rfl (by omega)).mono ?_; rintro e wx ⟨A13, c13, rfl, n13, m13, hbx⟩; replace hA := (hbx.block _ lA).trans hA; replace hB := (hbx.block _ lB).trans hB; replace lA := Nat.lt_of_lt_of_le lA hbx.size; replace lB := Nat.lt_of_lt_of_le lB hbx.size; replace hb := hb.trans (hbx.mono hb.size); (try replace h9 := (h9.below hbx).more hbx.size); (try replace h12 := (h12.below hbx).more hbx.size); (try replace h15 := (h15.below hbx).more hbx.size); (try replace n10 := (n10.below hbx).more hbx.size); clear hbx; try go_wp2_with fail
      refine hK.out _ _ ?_ (fun hHeld => ?_)
      · (try dsimp only); first | done | (exact ⟨hA, hB, lB⟩)
      clear hK K
      try simp only [Act.put, List.getElem_toArray, List.getElem_cons_succ, List.getElem_cons_zero, List.setIfInBounds_toArray, List.set_cons_zero, List.set_cons_succ]
      refine wpAnyH_ready (rs := [8]) (by kernel_rfl) (by simp) ?_
      refine AllReadyH.cons rfl (fun K hK => ?_) AllReadyH.nil
      go_simp; go_at_call 10; refine (Note_at A13 2 c13 [(adA, 3), (adB, 4)] 5 _ 1 1 [adA] _ n13 h15 [(adB, 4), (adA, 5)] 2 hN3.out rfl (by omega)).mono ?_; rintro e wx ⟨A16, c16, rfl, n16, m16, hbx⟩; replace hA := (hbx.block _ lA).trans hA; replace hB := (hbx.block _ lB).trans hB; replace lA := Nat.lt_of_lt_of_le lA hbx.size; replace lB := Nat.lt_of_lt_of_le lB hbx.size; replace hb := hb.trans (hbx.mono hb.size); (try replace h9 := (h9.below hbx).more hbx.size); (try replace h12 := (h12.below hbx).more hbx.size); (try replace h15 := (h15.below hbx).more hbx.size); (try replace n10 := (n10.below hbx).more hbx.size); (try replace n13 := (n13.below hbx).more hbx.size); clear hbx; try go_wp2_with fail
      refine hK.out _ _ ?_ (fun hHeld => ?_)
      · (try dsimp only); first | done | (exact ⟨hA, hB, lB⟩)
      clear hK K
      try simp only [Act.put, List.getElem_toArray, List.getElem_cons_succ, List.getElem_cons_zero, List.setIfInBounds_toArray, List.set_cons_zero, List.set_cons_succ]
      first
        | (refine wpAnyH_take (i := 9) (v := ?_) rfl (by kernel_rfl) (by kernel_rfl) (by kernel_rfl) (fun _ _ _ h => h) (Or.inl ⟨by rfl, ?_⟩) hHeld ?_; rotate_left; (intro wq hSw; (try dsimp only at hSw); go_simp; done))
        | (refine wpAnyH_take (i := 9) (v := ?_) rfl (by kernel_rfl) (by kernel_rfl) (by kernel_rfl) (fun _ _ _ h => h) (Or.inl ⟨by rfl, ?_⟩) hHeld ?_; rotate_left; (intro wq hSw; (try dsimp only at hSw); go_simp; with_reducible rfl))
        | refine wpAnyH_take (i := 9) (v := undef) rfl (by kernel_rfl) (by kernel_rfl) (by kernel_rfl) (fun _ _ _ h => h) (Or.inr ⟨by rfl, rfl⟩) hHeld ?_
      try simp only [Act.put, List.getElem_toArray, List.getElem_cons_succ, List.getElem_cons_zero, List.setIfInBounds_toArray, List.set_cons_zero, List.set_cons_succ]
      refine wpAnyH_done (by kernel_rfl) ?_ _
      (have lx := lB; go_wp2_with fail; go_meet; case rel => exact ⟨_, _, rfl, n16, hA, hB, hb, lx⟩)
    refine AllReadyH.cons rfl (fun K hK => ?_) AllReadyH.nil
    refine step_buildAd (by rfl) (.tmp 11) (by rfl) adB (by rfl) ?_; intro B12 wx h12 hbx; replace hA := (hbx.block _ lA).trans hA; replace hB := (hbx.block _ lB).trans hB; replace lA := Nat.lt_of_lt_of_le lA hbx.size; replace lB := Nat.lt_of_lt_of_le lB hbx.size; replace hb := hb.trans (hbx.mono hb.size); (try replace h9 := (h9.below hbx).more hbx.size); (try replace h15 := (h15.below hbx).more hbx.size); (try replace n10 := (n10.below hbx).more hbx.size); (try replace n13 := (n13.below hbx).more hbx.size); clear hbx
    refine hK.out _ _ ?_ (fun hHeld => ?_)
    · (try dsimp only); first | done | (exact ⟨hA, hB, lB⟩)
    clear hK K
    try simp only [Act.put, List.getElem_toArray, List.getElem_cons_succ, List.getElem_cons_zero, List.setIfInBounds_toArray, List.set_cons_zero, List.set_cons_succ]
    refine wpAnyH_ready (rs := [1]) (by kernel_rfl) (by simp) ?_
    refine AllReadyH.cons rfl (fun K hK => ?_) AllReadyH.nil
    refine step_buildAd (by rfl) (.tmp 8) (by rfl) adA (by rfl) ?_; intro B9 wx h9 hbx; replace hA := (hbx.block _ lA).trans hA; replace hB := (hbx.block _ lB).trans hB; replace lA := Nat.lt_of_lt_of_le lA hbx.size; replace lB := Nat.lt_of_lt_of_le lB hbx.size; replace hb := hb.trans (hbx.mono hb.size); (try replace h12 := (h12.below hbx).more hbx.size); (try replace h15 := (h15.below hbx).more hbx.size); (try replace n10 := (n10.below hbx).more hbx.size); (try replace n13 := (n13.below hbx).more hbx.size); clear hbx
    refine hK.out _ _ ?_ (fun hHeld => ?_)
    · (try dsimp only); first | done | (exact ⟨hA, hB, lB⟩)
    clear hK K
    try simp only [Act.put, List.getElem_toArray, List.getElem_cons_succ, List.getElem_cons_zero, List.setIfInBounds_toArray, List.set_cons_zero, List.set_cons_succ]
    refine wpAnyH_ready (rs := [2]) (by kernel_rfl) (by simp) ?_
    refine AllReadyH.cons rfl (fun K hK => ?_) AllReadyH.nil
    go_simp; go_at_call 10; refine (Note_at none 0 0 [] 3 _ 1 1 [adA] _ (Recs.nil_ _ _ _) h9 [(adA, 3)] 1 hN1.out rfl (by omega)).mono ?_; rintro e wx ⟨A10, c10, rfl, n10, m10, hbx⟩; replace hA := (hbx.block _ lA).trans hA; replace hB := (hbx.block _ lB).trans hB; replace lA := Nat.lt_of_lt_of_le lA hbx.size; replace lB := Nat.lt_of_lt_of_le lB hbx.size; replace hb := hb.trans (hbx.mono hb.size); (try replace h9 := (h9.below hbx).more hbx.size); (try replace h12 := (h12.below hbx).more hbx.size); (try replace h15 := (h15.below hbx).more hbx.size); (try replace n13 := (n13.below hbx).more hbx.size); clear hbx; try go_wp2_with fail
    refine hK.out _ _ ?_ (fun hHeld => ?_)
    · (try dsimp only); first | done | (exact ⟨hA, hB, lB⟩)
    clear hK K
    try simp only [Act.put, List.getElem_toArray, List.getElem_cons_succ, List.getElem_cons_zero, List.setIfInBounds_toArray, List.set_cons_zero, List.set_cons_succ]
    refine wpAnyH_ready (rs := [5]) (by kernel_rfl) (by simp) ?_
    refine AllReadyH.cons rfl (fun K hK => ?_) AllReadyH.nil
    go_simp; go_at_call 10; refine (Note_at A10 1 c10 [(adA, 3)] 4 _ 1 1 [adB] _ n10 h12 [(adA, 3), (adB, 4)] 2 hN2.out rfl (by omega)).mono ?_; rintro e wx ⟨A13, c13, rfl, n13, m13, hbx⟩; replace hA := (hbx.block _ lA).trans hA; replace hB := (hbx.block _ lB).trans hB; replace lA := Nat.lt_of_lt_of_le lA hbx.size; replace lB := Nat.lt_of_lt_of_le lB hbx.size; replace hb := hb.trans (hbx.mono hb.size); (try replace h9 := (h9.below hbx).more hbx.size); (try replace h12 := (h12.below hbx).more hbx.size); (try replace h15 := (h15.below hbx).more hbx.size); (try replace n10 := (n10.below hbx).more hbx.size); clear hbx; try go_wp2_with fail
    refine hK.out _ _ ?_ (fun hHeld => ?_)
    · (try dsimp only); first | done | (exact ⟨hA, hB, lB⟩)
    clear hK K
    try simp only [Act.put, List.getElem_toArray, List.getElem_cons_succ, List.getElem_cons_zero, List.setIfInBounds_toArray, List.set_cons_zero, List.set_cons_succ]
    refine wpAnyH_ready (rs := [8]) (by kernel_rfl) (by simp) ?_
    refine AllReadyH.cons rfl (fun K hK => ?_) AllReadyH.nil
    go_simp; go_at_call 10; refine (Note_at A13 2 c13 [(adA, 3), (adB, 4)] 5 _ 1 1 [adA] _ n13 h15 [(adB, 4), (adA, 5)] 2 hN3.out rfl (by omega)).mono ?_; rintro e wx ⟨A16, c16, rfl, n16, m16, hbx⟩; replace hA := (hbx.block _ lA).trans hA; replace hB := (hbx.block _ lB).trans hB; replace lA := Nat.lt_of_lt_of_le lA hbx.size; replace lB := Nat.lt_of_lt_of_le lB hbx.size; replace hb := hb.trans (hbx.mono hb.size); (try replace h9 := (h9.below hbx).more hbx.size); (try replace h12 := (h12.below hbx).more hbx.size); (try replace h15 := (h15.below hbx).more hbx.size); (try replace n10 := (n10.below hbx).more hbx.size); (try replace n13 := (n13.below hbx).more hbx.size); clear hbx; try go_wp2_with fail
    refine hK.out _ _ ?_ (fun hHeld => ?_)
    · (try dsimp only); first | done | (exact ⟨hA, hB, lB⟩)
    clear hK K
    try simp only [Act.put, List.getElem_toArray, List.getElem_cons_succ, List.getElem_cons_zero, List.setIfInBounds_toArray, List.set_cons_zero, List.set_cons_succ]
    first
      | (refine wpAnyH_take (i := 9) (v := ?_) rfl (by kernel_rfl) (by kernel_rfl) (by kernel_rfl) (fun _ _ _ h => h) (Or.inl ⟨by rfl, ?_⟩) hHeld ?_; rotate_left; (intro wq hSw; (try dsimp only at hSw); go_simp; done))
      | (refine wpAnyH_take (i := 9) (v := ?_) rfl (by kernel_rfl) (by kernel_rfl) (by kernel_rfl) (fun _ _ _ h => h) (Or.inl ⟨by rfl, ?_⟩) hHeld ?_; rotate_left; (intro wq hSw; (try dsimp only at hSw); go_simp; with_reducible rfl))
      | refine wpAnyH_take (i := 9) (v := undef) rfl (by kernel_rfl) (by kernel_rfl) (by kernel_rfl) (fun _ _ _ h => h) (Or.inr ⟨by rfl, rfl⟩) hHeld ?_
    try simp only [Act.put, List.getElem_toArray, List.getElem_cons_succ, List.getElem_cons_zero, List.setIfInBounds_toArray, List.set_cons_zero, List.set_cons_succ]
    refine wpAnyH_done (by kernel_rfl) ?_ _
    (have lx := lB; go_wp2_with fail; go_meet; case rel => exact ⟨_, _, rfl, n16, hA, hB, hb, lx⟩)
  case rest =>
    obtain ⟨A, c, rfl, r1, hA, hB, hb, lB⟩ := hcut
    go_wp2_with fail
    have hW : Hid (worstL ([(adB, 4), (adA, 5)].filter (freshR 9 5)) = adA ∧ decide (0 < ([(adB, 4), (adA, 5)].filter (freshR 9 5)).length) = true) := (by show _ ∧ _; decide)
    refine (Worst_any _ _ _ [(adB, 4), (adA, 5)] 9 5 _ r1 (by omega)).mono ?_
    rw [hW.out.1, hW.out.2]
    rintro e w2 ⟨rfl, hb2⟩
    unfold valAd
    replace hb := hb.trans (hb2.mono hb.size)
    replace r1 := (r1.below hb2).more hb2.size
    replace hA := (hb2.block _ (by omega)).trans hA
    replace hB := (hb2.block _ lB).trans hB
    replace lB := Nat.lt_of_lt_of_le lB hb2.size
    have lA : w.heap.size < w2.heap.size := by omega
    clear hb2
    go_upto_region 4 with fail
    have hC : (w2.alloc (.cells #[.int .i8 adA.1, .int .u16 adA.2.1, .int .u16 adA.2.2.1, .int .u16 adA.2.2.2.1, .int .u16 adA.2.2.2.2.1, .int .u16 adA.2.2.2.2.2.1, .int .u16 adA.2.2.2.2.2.2.1, .int .u16 adA.2.2.2.2.2.2.2.1, .int .u16 adA.2.2.2.2.2.2.2.2.1, .int .i64 adA.2.2.2.2.2.2.2.2.2] 31)).heap[w2.heap.size]? = some (.cells #[.int .i8 adA.1, .int .u16 adA.2.1, .int .u16 adA.2.2.1, .int .u16 adA.2.2.2.1, .int .u16 adA.2.2.2.2.1, .int .u16 adA.2.2.2.2.2.1, .int .u16 adA.2.2.2.2.2.2.1, .int .u16 adA.2.2.2.2.2.2.2.1, .int .u16 adA.2.2.2.2.2.2.2.2.1, .int .i64 adA.2.2.2.2.2.2.2.2.2] 31 (0, 0)) := heap_alloc_new w2 _
    replace hA := (Below.heap_alloc w2 (.cells #[.int .i8 adA.1, .int .u16 adA.2.1, .int .u16 adA.2.2.1, .int .u16 adA.2.2.2.1, .int .u16 adA.2.2.2.2.1, .int .u16 adA.2.2.2.2.2.1, .int .u16 adA.2.2.2.2.2.2.1, .int .u16 adA.2.2.2.2.2.2.2.1, .int .u16 adA.2.2.2.2.2.2.2.2.1, .int .i64 adA.2.2.2.2.2.2.2.2.2] 31) _ lA).trans hA
    replace hB := (Below.heap_alloc w2 (.cells #[.int .i8 adA.1, .int .u16 adA.2.1, .int .u16 adA.2.2.1, .int .u16 adA.2.2.2.1, .int .u16 adA.2.2.2.2.1, .int .u16 adA.2.2.2.2.2.1, .int .u16 adA.2.2.2.2.2.2.1, .int .u16 adA.2.2.2.2.2.2.2.1, .int .u16 adA.2.2.2.2.2.2.2.2.1, .int .i64 adA.2.2.2.2.2.2.2.2.2] 31) _ lB).trans hB
    replace r1 := (r1.alloc (Nat.le_refl _) (.cells #[.int .i8 adA.1, .int .u16 adA.2.1, .int .u16 adA.2.2.1, .int .u16 adA.2.2.2.1, .int .u16 adA.2.2.2.2.1, .int .u16 adA.2.2.2.2.2.1, .int .u16 adA.2.2.2.2.2.2.1, .int .u16 adA.2.2.2.2.2.2.2.1, .int .u16 adA.2.2.2.2.2.2.2.2.1, .int .i64 adA.2.2.2.2.2.2.2.2.2] 31)).more (B' := (w2.alloc (.cells #[.int .i8 adA.1, .int .u16 adA.2.1, .int .u16 adA.2.2.1, .int .u16 adA.2.2.2.1, .int .u16 adA.2.2.2.2.1, .int .u16 adA.2.2.2.2.2.1, .int .u16 adA.2.2.2.2.2.2.1, .int .u16 adA.2.2.2.2.2.2.2.1, .int .u16 adA.2.2.2.2.2.2.2.2.1, .int .i64 adA.2.2.2.2.2.2.2.2.2] 31)).heap.size) (by simp)
    replace hb := hb.alloc hb.size (.cells #[.int .i8 adA.1, .int .u16 adA.2.1, .int .u16 adA.2.2.1, .int .u16 adA.2.2.2.1, .int .u16 adA.2.2.2.2.1, .int .u16 adA.2.2.2.2.2.1, .int .u16 adA.2.2.2.2.2.2.1, .int .u16 adA.2.2.2.2.2.2.2.1, .int .u16 adA.2.2.2.2.2.2.2.2.1, .int .i64 adA.2.2.2.2.2.2.2.2.2] 31)
    have lC : w2.heap.size < (w2.alloc (.cells #[.int .i8 adA.1, .int .u16 adA.2.1, .int .u16 adA.2.2.1, .int .u16 adA.2.2.2.1, .int .u16 adA.2.2.2.2.1, .int .u16 adA.2.2.2.2.2.1, .int .u16 adA.2.2.2.2.2.2.1, .int .u16 adA.2.2.2.2.2.2.2.1, .int .u16 adA.2.2.2.2.2.2.2.2.1, .int .i64 adA.2.2.2.2.2.2.2.2.2] 31)).heap.size := by simp
    replace lA : w.heap.size < (w2.alloc (.cells #[.int .i8 adA.1, .int .u16 adA.2.1, .int .u16 adA.2.2.1, .int .u16 adA.2.2.2.1, .int .u16 adA.2.2.2.2.1, .int .u16 adA.2.2.2.2.2.1, .int .u16 adA.2.2.2.2.2.2.1, .int .u16 adA.2.2.2.2.2.2.2.1, .int .u16 adA.2.2.2.2.2.2.2.2.1, .int .i64 adA.2.2.2.2.2.2.2.2.2] 31)).heap.size := by omega
    replace lB : w.heap.size + 1 < (w2.alloc (.cells #[.int .i8 adA.1, .int .u16 adA.2.1, .int .u16 adA.2.2.1, .int .u16 adA.2.2.2.1, .int .u16 adA.2.2.2.2.1, .int .u16 adA.2.2.2.2.2.1, .int .u16 adA.2.2.2.2.2.2.1, .int .u16 adA.2.2.2.2.2.2.2.1, .int .u16 adA.2.2.2.2.2.2.2.2.1, .int .i64 adA.2.2.2.2.2.2.2.2.2] 31)).heap.size := by omega
    generalize (w2.alloc (.cells #[.int .i8 adA.1, .int .u16 adA.2.1, .int .u16 adA.2.2.1, .int .u16 adA.2.2.2.1, .int .u16 adA.2.2.2.2.1, .int .u16 adA.2.2.2.2.2.1, .int .u16 adA.2.2.2.2.2.2.1, .int .u16 adA.2.2.2.2.2.2.2.1, .int .u16 adA.2.2.2.2.2.2.2.2.1, .int .i64 adA.2.2.2.2.2.2.2.2.2] 31)) = W4 at *
    generalize w2.heap.size = g2 at *
    obtain ⟨b, off, y, rfl, hbb, hy, _⟩ := Scs.cells r1 (i := 0) (by omega)
    have hH1 : Hid (hasB [(adB, 4), (adA, 5)] 2 7 [adA] = false) := (by show _ = _; decide)
    have hH2 : Hid (hasB [(adB, 4), (adA, 5)] 2 6 [adA] = true) := (by show _ = _; decide)
    have hE1 := fun wx => eqSc (adB, 4) (adB, 4) wx
    have hE2 := fun wx => eqSc (adA, 5) (adA, 5) wx
    have hE3 := fun wx => eqAd adA adA wx
    rw [show decide (((adB, 4) : Sc) = (adB, 4)) = true by decide] at hE1
    rw [show decide (((adA, 5) : Sc) = (adA, 5)) = true by decide] at hE2
    rw [show decide (adA = adA) = true by decide] at hE3
    unfold valSc at hE1 hE2
    unfold valAd at hE3
    dsimp only at hE1 hE2 hE3
    have hS : Below W4.heap.size W4 W4.drew := (Below.refl _ _).drew
    refine wp_region_held_drew (S := (fun wx => Below W4.heap.size W4 wx)) (by kernel_rfl) ?_ (fun hHeld => ?_)
    · (try dsimp only); first | done | (exact hS)
    first
      | (refine wpAnyH_take (i := 0) (v := ?_) rfl (by kernel_rfl) (by kernel_rfl) (by kernel_rfl) (fun _ _ _ h => h) (Or.inl ⟨by rfl, ?_⟩) hHeld ?_; rotate_left; (intro wq hSw; (try dsimp only at hSw); go_simp; done))
      | (refine wpAnyH_take (i := 0) (v := ?_) rfl (by kernel_rfl) (by kernel_rfl) (by kernel_rfl) (fun _ _ _ h => h) (Or.inl ⟨by rfl, ?_⟩) hHeld ?_; rotate_left; (intro wq hSw; (try dsimp only at hSw); go_simp; with_reducible rfl))
      | refine wpAnyH_take (i := 0) (v := undef) rfl (by kernel_rfl) (by kernel_rfl) (by kernel_rfl) (fun _ _ _ h => h) (Or.inr ⟨by rfl, rfl⟩) hHeld ?_
    try simp only [Act.put, List.getElem_toArray, List.getElem_cons_succ, List.getElem_cons_zero, List.setIfInBounds_toArray, List.set_cons_zero, List.set_cons_succ]
    first
      | (refine wpAnyH_take (i := 1) (v := ?_) rfl (by kernel_rfl) (by kernel_rfl) (by kernel_rfl) (fun _ _ _ h => h) (Or.inl ⟨by rfl, ?_⟩) hHeld ?_; rotate_left; (intro wq hSw; (try dsimp only at hSw); go_simp; done))
      | (refine wpAnyH_take (i := 1) (v := ?_) rfl (by kernel_rfl) (by kernel_rfl) (by kernel_rfl) (fun _ _ _ h => h) (Or.inl ⟨by rfl, ?_⟩) hHeld ?_; rotate_left; (intro wq hSw; (try dsimp only at hSw); go_simp; with_reducible rfl))
      | refine wpAnyH_take (i := 1) (v := undef) rfl (by kernel_rfl) (by kernel_rfl) (by kernel_rfl) (fun _ _ _ h => h) (Or.inr ⟨by rfl, rfl⟩) hHeld ?_
    try simp only [Act.put, List.getElem_toArray, List.getElem_cons_succ, List.getElem_cons_zero, List.setIfInBounds_toArray, List.set_cons_zero, List.set_cons_succ]
    first
      | (refine wpAnyH_take (i := 2) (v := ?_) rfl (by kernel_rfl) (by kernel_rfl) (by kernel_rfl) (fun _ _ _ h => h) (Or.inl ⟨by rfl, ?_⟩) hHeld ?_; rotate_left; (intro wq hSw; (try dsimp only at hSw); go_simp; done))
      | (refine wpAnyH_take (i := 2) (v := ?_) rfl (by kernel_rfl) (by kernel_rfl) (by kernel_rfl) (fun _ _ _ h => h) (Or.inl ⟨by rfl, ?_⟩) hHeld ?_; rotate_left; (intro wq hSw; (try dsimp only at hSw); go_simp; with_reducible rfl))
      | refine wpAnyH_take (i := 2) (v := undef) rfl (by kernel_rfl) (by kernel_rfl) (by kernel_rfl) (fun _ _ _ h => h) (Or.inr ⟨by rfl, rfl⟩) hHeld ?_
    try simp only [Act.put, List.getElem_toArray, List.getElem_cons_succ, List.getElem_cons_zero, List.setIfInBounds_toArray, List.set_cons_zero, List.set_cons_succ]
    first
      | (refine wpAnyH_take (i := 3) (v := ?_) rfl (by kernel_rfl) (by kernel_rfl) (by kernel_rfl) (fun _ _ _ h => h) (Or.inl ⟨by rfl, ?_⟩) hHeld ?_; rotate_left; (intro wq hSw; (try dsimp only at hSw); go_simp; done))
      | (refine wpAnyH_take (i := 3) (v := ?_) rfl (by kernel_rfl) (by kernel_rfl) (by kernel_rfl) (fun _ _ _ h => h) (Or.inl ⟨by rfl, ?_⟩) hHeld ?_; rotate_left; (intro wq hSw; (try dsimp only at hSw); go_simp; with_reducible rfl))
      | refine wpAnyH_take (i := 3) (v := undef) rfl (by kernel_rfl) (by kernel_rfl) (by kernel_rfl) (fun _ _ _ h => h) (Or.inr ⟨by rfl, rfl⟩) hHeld ?_
    try simp only [Act.put, List.getElem_toArray, List.getElem_cons_succ, List.getElem_cons_zero, List.setIfInBounds_toArray, List.set_cons_zero, List.set_cons_succ]
    first
      | (refine wpAnyH_take (i := 4) (v := ?_) rfl (by kernel_rfl) (by kernel_rfl) (by kernel_rfl) (fun _ _ _ h => h) (Or.inl ⟨by rfl, ?_⟩) hHeld ?_; rotate_left; (intro wq hSw; (try dsimp only at hSw); go_simp; done))
      | (refine wpAnyH_take (i := 4) (v := ?_) rfl (by kernel_rfl) (by kernel_rfl) (by kernel_rfl) (fun _ _ _ h => h) (Or.inl ⟨by rfl, ?_⟩) hHeld ?_; rotate_left; (intro wq hSw; (try dsimp only at hSw); go_simp; with_reducible rfl))
      | refine wpAnyH_take (i := 4) (v := undef) rfl (by kernel_rfl) (by kernel_rfl) (by kernel_rfl) (fun _ _ _ h => h) (Or.inr ⟨by rfl, rfl⟩) hHeld ?_
    try simp only [Act.put, List.getElem_toArray, List.getElem_cons_succ, List.getElem_cons_zero, List.setIfInBounds_toArray, List.set_cons_zero, List.set_cons_succ]
    first
      | (refine wpAnyH_take (i := 7) (v := ?_) rfl (by kernel_rfl) (by kernel_rfl) (by kernel_rfl) (fun _ _ _ h => h) (Or.inl ⟨by rfl, ?_⟩) hHeld ?_; rotate_left; (intro wq hSw; (try dsimp only at hSw); obtain ⟨z0, z1, z2, z3, z4, z5, z6, z7, z8, z9⟩ := ad_cells ((hSw.block _ lB).trans hB); go_simp; done))
      | (refine wpAnyH_take (i := 7) (v := ?_) rfl (by kernel_rfl) (by kernel_rfl) (by kernel_rfl) (fun _ _ _ h => h) (Or.inl ⟨by rfl, ?_⟩) hHeld ?_; rotate_left; (intro wq hSw; (try dsimp only at hSw); obtain ⟨z0, z1, z2, z3, z4, z5, z6, z7, z8, z9⟩ := ad_cells ((hSw.block _ lB).trans hB); go_simp; with_reducible rfl))
      | refine wpAnyH_take (i := 7) (v := undef) rfl (by kernel_rfl) (by kernel_rfl) (by kernel_rfl) (fun _ _ _ h => h) (Or.inr ⟨by rfl, rfl⟩) hHeld ?_
    try simp only [Act.put, List.getElem_toArray, List.getElem_cons_succ, List.getElem_cons_zero, List.setIfInBounds_toArray, List.set_cons_zero, List.set_cons_succ]
    first
      | (refine wpAnyH_take (i := 5) (v := ?_) rfl (by kernel_rfl) (by kernel_rfl) (by kernel_rfl) (fun _ _ _ h => h) (Or.inl ⟨by rfl, ?_⟩) hHeld ?_; rotate_left; (intro wq hSw; (try dsimp only at hSw); go_simp; done))
      | (refine wpAnyH_take (i := 5) (v := ?_) rfl (by kernel_rfl) (by kernel_rfl) (by kernel_rfl) (fun _ _ _ h => h) (Or.inl ⟨by rfl, ?_⟩) hHeld ?_; rotate_left; (intro wq hSw; (try dsimp only at hSw); go_simp; with_reducible rfl))
      | refine wpAnyH_take (i := 5) (v := undef) rfl (by kernel_rfl) (by kernel_rfl) (by kernel_rfl) (fun _ _ _ h => h) (Or.inr ⟨by rfl, rfl⟩) hHeld ?_
    try simp only [Act.put, List.getElem_toArray, List.getElem_cons_succ, List.getElem_cons_zero, List.setIfInBounds_toArray, List.set_cons_zero, List.set_cons_succ]
    first
      | (refine wpAnyH_take (i := 8) (v := ?_) rfl (by kernel_rfl) (by kernel_rfl) (by kernel_rfl) (fun _ _ _ h => h) (Or.inl ⟨by rfl, ?_⟩) hHeld ?_; rotate_left; (intro wq hSw; (try dsimp only at hSw); go_simp; done))
      | (refine wpAnyH_take (i := 8) (v := ?_) rfl (by kernel_rfl) (by kernel_rfl) (by kernel_rfl) (fun _ _ _ h => h) (Or.inl ⟨by rfl, ?_⟩) hHeld ?_; rotate_left; (intro wq hSw; (try dsimp only at hSw); go_simp; with_reducible rfl))
      | refine wpAnyH_take (i := 8) (v := undef) rfl (by kernel_rfl) (by kernel_rfl) (by kernel_rfl) (fun _ _ _ h => h) (Or.inr ⟨by rfl, rfl⟩) hHeld ?_
    try simp only [Act.put, List.getElem_toArray, List.getElem_cons_succ, List.getElem_cons_zero, List.setIfInBounds_toArray, List.set_cons_zero, List.set_cons_succ]
    first
      | (refine wpAnyH_take (i := 6) (v := ?_) rfl (by kernel_rfl) (by kernel_rfl) (by kernel_rfl) (fun _ _ _ h => h) (Or.inl ⟨by rfl, ?_⟩) hHeld ?_; rotate_left; (intro wq hSw; (try dsimp only at hSw); obtain ⟨y0, y1, y2, y3, y4, y5, y6, y7, y8, y9, y10⟩ := Scs.cells_at (r1.below hSw) (i := 0) (x := (adB, 4)) (by omega) rfl; simp only [Nat.zero_mul, Nat.one_mul, Nat.add_zero] at y0 y1 y2 y3 y4 y5 y6 y7 y8 y9 y10; go_simp; done))
      | (refine wpAnyH_take (i := 6) (v := ?_) rfl (by kernel_rfl) (by kernel_rfl) (by kernel_rfl) (fun _ _ _ h => h) (Or.inl ⟨by rfl, ?_⟩) hHeld ?_; rotate_left; (intro wq hSw; (try dsimp only at hSw); obtain ⟨y0, y1, y2, y3, y4, y5, y6, y7, y8, y9, y10⟩ := Scs.cells_at (r1.below hSw) (i := 0) (x := (adB, 4)) (by omega) rfl; simp only [Nat.zero_mul, Nat.one_mul, Nat.add_zero] at y0 y1 y2 y3 y4 y5 y6 y7 y8 y9 y10; go_simp; with_reducible rfl))
      | refine wpAnyH_take (i := 6) (v := undef) rfl (by kernel_rfl) (by kernel_rfl) (by kernel_rfl) (fun _ _ _ h => h) (Or.inr ⟨by rfl, rfl⟩) hHeld ?_
    try simp only [Act.put, List.getElem_toArray, List.getElem_cons_succ, List.getElem_cons_zero, List.setIfInBounds_toArray, List.set_cons_zero, List.set_cons_succ]
    first
      | (refine wpAnyH_take (i := 9) (v := ?_) rfl (by kernel_rfl) (by kernel_rfl) (by kernel_rfl) (fun _ _ _ h => h) (Or.inl ⟨by rfl, ?_⟩) hHeld ?_; rotate_left; (intro wq hSw; (try dsimp only at hSw); go_simp; done))
      | (refine wpAnyH_take (i := 9) (v := ?_) rfl (by kernel_rfl) (by kernel_rfl) (by kernel_rfl) (fun _ _ _ h => h) (Or.inl ⟨by rfl, ?_⟩) hHeld ?_; rotate_left; (intro wq hSw; (try dsimp only at hSw); go_simp; with_reducible rfl))
      | refine wpAnyH_take (i := 9) (v := undef) rfl (by kernel_rfl) (by kernel_rfl) (by kernel_rfl) (fun _ _ _ h => h) (Or.inr ⟨by rfl, rfl⟩) hHeld ?_
    try simp only [Act.put, List.getElem_toArray, List.getElem_cons_succ, List.getElem_cons_zero, List.setIfInBounds_toArray, List.set_cons_zero, List.set_cons_succ]
    first
      | (refine wpAnyH_take (i := 10) (v := ?_) rfl (by kernel_rfl) (by kernel_rfl) (by kernel_rfl) (fun _ _ _ h => h) (Or.inl ⟨by rfl, ?_⟩) hHeld ?_; rotate_left; (intro wq hSw; (try dsimp only at hSw); go_simp; done))
      | (refine wpAnyH_take (i := 10) (v := ?_) rfl (by kernel_rfl) (by kernel_rfl) (by kernel_rfl) (fun _ _ _ h => h) (Or.inl ⟨by rfl, ?_⟩) hHeld ?_; rotate_left; (intro wq hSw; (try dsimp only at hSw); go_simp; with_reducible rfl))
      | refine wpAnyH_take (i := 10) (v := undef) rfl (by kernel_rfl) (by kernel_rfl) (by kernel_rfl) (fun _ _ _ h => h) (Or.inr ⟨by rfl, rfl⟩) hHeld ?_
    try simp only [Act.put, List.getElem_toArray, List.getElem_cons_succ, List.getElem_cons_zero, List.setIfInBounds_toArray, List.set_cons_zero, List.set_cons_succ]
    first
      | (refine wpAnyH_take (i := 11) (v := ?_) rfl (by kernel_rfl) (by kernel_rfl) (by kernel_rfl) (fun _ _ _ h => h) (Or.inl ⟨by rfl, ?_⟩) hHeld ?_; rotate_left; (intro wq hSw; (try dsimp only at hSw); go_simp; done))
      | (refine wpAnyH_take (i := 11) (v := ?_) rfl (by kernel_rfl) (by kernel_rfl) (by kernel_rfl) (fun _ _ _ h => h) (Or.inl ⟨by rfl, ?_⟩) hHeld ?_; rotate_left; (intro wq hSw; (try dsimp only at hSw); go_simp; with_reducible rfl))
      | refine wpAnyH_take (i := 11) (v := undef) rfl (by kernel_rfl) (by kernel_rfl) (by kernel_rfl) (fun _ _ _ h => h) (Or.inr ⟨by rfl, rfl⟩) hHeld ?_
    try simp only [Act.put, List.getElem_toArray, List.getElem_cons_succ, List.getElem_cons_zero, List.setIfInBounds_toArray, List.set_cons_zero, List.set_cons_succ]
    first
      | (refine wpAnyH_take (i := 12) (v := ?_) rfl (by kernel_rfl) (by kernel_rfl) (by kernel_rfl) (fun _ _ _ h => h) (Or.inl ⟨by rfl, ?_⟩) hHeld ?_; rotate_left; (intro wq hSw; (try dsimp only at hSw); go_simp; done))
      | (refine wpAnyH_take (i := 12) (v := ?_) rfl (by kernel_rfl) (by kernel_rfl) (by kernel_rfl) (fun _ _ _ h => h) (Or.inl ⟨by rfl, ?_⟩) hHeld ?_; rotate_left; (intro wq hSw; (try dsimp only at hSw); go_simp; with_reducible rfl))
      | refine wpAnyH_take (i := 12) (v := undef) rfl (by kernel_rfl) (by kernel_rfl) (by kernel_rfl) (fun _ _ _ h => h) (Or.inr ⟨by rfl, rfl⟩) hHeld ?_
    try simp only [Act.put, List.getElem_toArray, List.getElem_cons_succ, List.getElem_cons_zero, List.setIfInBounds_toArray, List.set_cons_zero, List.set_cons_succ]
    first
      | (refine wpAnyH_take (i := 15) (v := ?_) rfl (by kernel_rfl) (by kernel_rfl) (by kernel_rfl) (fun _ _ _ h => h) (Or.inl ⟨by rfl, ?_⟩) hHeld ?_; rotate_left; (intro wq hSw; (try dsimp only at hSw); obtain ⟨z0, z1, z2, z3, z4, z5, z6, z7, z8, z9⟩ := ad_cells ((hSw.block _ lA).trans hA); go_simp; done))
      | (refine wpAnyH_take (i := 15) (v := ?_) rfl (by kernel_rfl) (by kernel_rfl) (by kernel_rfl) (fun _ _ _ h => h) (Or.inl ⟨by rfl, ?_⟩) hHeld ?_; rotate_left; (intro wq hSw; (try dsimp only at hSw); obtain ⟨z0, z1, z2, z3, z4, z5, z6, z7, z8, z9⟩ := ad_cells ((hSw.block _ lA).trans hA); go_simp; with_reducible rfl))
      | refine wpAnyH_take (i := 15) (v := undef) rfl (by kernel_rfl) (by kernel_rfl) (by kernel_rfl) (fun _ _ _ h => h) (Or.inr ⟨by rfl, rfl⟩) hHeld ?_
    try simp only [Act.put, List.getElem_toArray, List.getElem_cons_succ, List.getElem_cons_zero, List.setIfInBounds_toArray, List.set_cons_zero, List.set_cons_succ]
    first
      | (refine wpAnyH_take (i := 13) (v := ?_) rfl (by kernel_rfl) (by kernel_rfl) (by kernel_rfl) (fun _ _ _ h => h) (Or.inl ⟨by rfl, ?_⟩) hHeld ?_; rotate_left; (intro wq hSw; (try dsimp only at hSw); go_simp; done))
      | (refine wpAnyH_take (i := 13) (v := ?_) rfl (by kernel_rfl) (by kernel_rfl) (by kernel_rfl) (fun _ _ _ h => h) (Or.inl ⟨by rfl, ?_⟩) hHeld ?_; rotate_left; (intro wq hSw; (try dsimp only at hSw); go_simp; with_reducible rfl))
      | refine wpAnyH_take (i := 13) (v := undef) rfl (by kernel_rfl) (by kernel_rfl) (by kernel_rfl) (fun _ _ _ h => h) (Or.inr ⟨by rfl, rfl⟩) hHeld ?_
    try simp only [Act.put, List.getElem_toArray, List.getElem_cons_succ, List.getElem_cons_zero, List.setIfInBounds_toArray, List.set_cons_zero, List.set_cons_succ]
    first
      | (refine wpAnyH_take (i := 16) (v := ?_) rfl (by kernel_rfl) (by kernel_rfl) (by kernel_rfl) (fun _ _ _ h => h) (Or.inl ⟨by rfl, ?_⟩) hHeld ?_; rotate_left; (intro wq hSw; (try dsimp only at hSw); go_simp; done))
      | (refine wpAnyH_take (i := 16) (v := ?_) rfl (by kernel_rfl) (by kernel_rfl) (by kernel_rfl) (fun _ _ _ h => h) (Or.inl ⟨by rfl, ?_⟩) hHeld ?_; rotate_left; (intro wq hSw; (try dsimp only at hSw); go_simp; with_reducible rfl))
      | refine wpAnyH_take (i := 16) (v := undef) rfl (by kernel_rfl) (by kernel_rfl) (by kernel_rfl) (fun _ _ _ h => h) (Or.inr ⟨by rfl, rfl⟩) hHeld ?_
    try simp only [Act.put, List.getElem_toArray, List.getElem_cons_succ, List.getElem_cons_zero, List.setIfInBounds_toArray, List.set_cons_zero, List.set_cons_succ]
    first
      | (refine wpAnyH_take (i := 14) (v := ?_) rfl (by kernel_rfl) (by kernel_rfl) (by kernel_rfl) (fun _ _ _ h => h) (Or.inl ⟨by rfl, ?_⟩) hHeld ?_; rotate_left; (intro wq hSw; (try dsimp only at hSw); obtain ⟨y0, y1, y2, y3, y4, y5, y6, y7, y8, y9, y10⟩ := Scs.cells_at (r1.below hSw) (i := 1) (x := (adA, 5)) (by omega) rfl; simp only [Nat.zero_mul, Nat.one_mul, Nat.add_zero] at y0 y1 y2 y3 y4 y5 y6 y7 y8 y9 y10; go_simp; done))
      | (refine wpAnyH_take (i := 14) (v := ?_) rfl (by kernel_rfl) (by kernel_rfl) (by kernel_rfl) (fun _ _ _ h => h) (Or.inl ⟨by rfl, ?_⟩) hHeld ?_; rotate_left; (intro wq hSw; (try dsimp only at hSw); obtain ⟨y0, y1, y2, y3, y4, y5, y6, y7, y8, y9, y10⟩ := Scs.cells_at (r1.below hSw) (i := 1) (x := (adA, 5)) (by omega) rfl; simp only [Nat.zero_mul, Nat.one_mul, Nat.add_zero] at y0 y1 y2 y3 y4 y5 y6 y7 y8 y9 y10; go_simp; with_reducible rfl))
      | refine wpAnyH_take (i := 14) (v := undef) rfl (by kernel_rfl) (by kernel_rfl) (by kernel_rfl) (fun _ _ _ h => h) (Or.inr ⟨by rfl, rfl⟩) hHeld ?_
    try simp only [Act.put, List.getElem_toArray, List.getElem_cons_succ, List.getElem_cons_zero, List.setIfInBounds_toArray, List.set_cons_zero, List.set_cons_succ]
    first
      | (refine wpAnyH_take (i := 17) (v := ?_) rfl (by kernel_rfl) (by kernel_rfl) (by kernel_rfl) (fun _ _ _ h => h) (Or.inl ⟨by rfl, ?_⟩) hHeld ?_; rotate_left; (intro wq hSw; (try dsimp only at hSw); go_simp; done))
      | (refine wpAnyH_take (i := 17) (v := ?_) rfl (by kernel_rfl) (by kernel_rfl) (by kernel_rfl) (fun _ _ _ h => h) (Or.inl ⟨by rfl, ?_⟩) hHeld ?_; rotate_left; (intro wq hSw; (try dsimp only at hSw); go_simp; with_reducible rfl))
      | refine wpAnyH_take (i := 17) (v := undef) rfl (by kernel_rfl) (by kernel_rfl) (by kernel_rfl) (fun _ _ _ h => h) (Or.inr ⟨by rfl, rfl⟩) hHeld ?_
    try simp only [Act.put, List.getElem_toArray, List.getElem_cons_succ, List.getElem_cons_zero, List.setIfInBounds_toArray, List.set_cons_zero, List.set_cons_succ]
    first
      | (refine wpAnyH_take (i := 18) (v := ?_) rfl (by kernel_rfl) (by kernel_rfl) (by kernel_rfl) (fun _ _ _ h => h) (Or.inl ⟨by rfl, ?_⟩) hHeld ?_; rotate_left; (intro wq hSw; (try dsimp only at hSw); go_simp; done))
      | (refine wpAnyH_take (i := 18) (v := ?_) rfl (by kernel_rfl) (by kernel_rfl) (by kernel_rfl) (fun _ _ _ h => h) (Or.inl ⟨by rfl, ?_⟩) hHeld ?_; rotate_left; (intro wq hSw; (try dsimp only at hSw); go_simp; with_reducible rfl))
      | refine wpAnyH_take (i := 18) (v := undef) rfl (by kernel_rfl) (by kernel_rfl) (by kernel_rfl) (fun _ _ _ h => h) (Or.inr ⟨by rfl, rfl⟩) hHeld ?_
    try simp only [Act.put, List.getElem_toArray, List.getElem_cons_succ, List.getElem_cons_zero, List.setIfInBounds_toArray, List.set_cons_zero, List.set_cons_succ]
    first
      | (refine wpAnyH_take (i := 19) (v := ?_) rfl (by kernel_rfl) (by kernel_rfl) (by kernel_rfl) (fun _ _ _ h => h) (Or.inl ⟨by rfl, ?_⟩) hHeld ?_; rotate_left; (intro wq hSw; (try dsimp only at hSw); go_simp; done))
      | (refine wpAnyH_take (i := 19) (v := ?_) rfl (by kernel_rfl) (by kernel_rfl) (by kernel_rfl) (fun _ _ _ h => h) (Or.inl ⟨by rfl, ?_⟩) hHeld ?_; rotate_left; (intro wq hSw; (try dsimp only at hSw); go_simp; with_reducible rfl))
      | refine wpAnyH_take (i := 19) (v := undef) rfl (by kernel_rfl) (by kernel_rfl) (by kernel_rfl) (fun _ _ _ h => h) (Or.inr ⟨by rfl, rfl⟩) hHeld ?_
    try simp only [Act.put, List.getElem_toArray, List.getElem_cons_succ, List.getElem_cons_zero, List.setIfInBounds_toArray, List.set_cons_zero, List.set_cons_succ]
    first
      | (refine wpAnyH_take (i := 20) (v := ?_) rfl (by kernel_rfl) (by kernel_rfl) (by kernel_rfl) (fun _ _ _ h => h) (Or.inl ⟨by rfl, ?_⟩) hHeld ?_; rotate_left; (intro wq hSw; (try dsimp only at hSw); go_simp; done))
      | (refine wpAnyH_take (i := 20) (v := ?_) rfl (by kernel_rfl) (by kernel_rfl) (by kernel_rfl) (fun _ _ _ h => h) (Or.inl ⟨by rfl, ?_⟩) hHeld ?_; rotate_left; (intro wq hSw; (try dsimp only at hSw); go_simp; with_reducible rfl))
      | refine wpAnyH_take (i := 20) (v := undef) rfl (by kernel_rfl) (by kernel_rfl) (by kernel_rfl) (fun _ _ _ h => h) (Or.inr ⟨by rfl, rfl⟩) hHeld ?_
    try simp only [Act.put, List.getElem_toArray, List.getElem_cons_succ, List.getElem_cons_zero, List.setIfInBounds_toArray, List.set_cons_zero, List.set_cons_succ]
    first
      | (refine wpAnyH_take (i := 21) (v := ?_) rfl (by kernel_rfl) (by kernel_rfl) (by kernel_rfl) (fun _ _ _ h => h) (Or.inl ⟨by rfl, ?_⟩) hHeld ?_; rotate_left; (intro wq hSw; (try dsimp only at hSw); obtain ⟨z0, z1, z2, z3, z4, z5, z6, z7, z8, z9⟩ := ad_cells ((hSw.block _ lA).trans hA); go_simp; done))
      | (refine wpAnyH_take (i := 21) (v := ?_) rfl (by kernel_rfl) (by kernel_rfl) (by kernel_rfl) (fun _ _ _ h => h) (Or.inl ⟨by rfl, ?_⟩) hHeld ?_; rotate_left; (intro wq hSw; (try dsimp only at hSw); obtain ⟨z0, z1, z2, z3, z4, z5, z6, z7, z8, z9⟩ := ad_cells ((hSw.block _ lA).trans hA); go_simp; with_reducible rfl))
      | refine wpAnyH_take (i := 21) (v := undef) rfl (by kernel_rfl) (by kernel_rfl) (by kernel_rfl) (fun _ _ _ h => h) (Or.inr ⟨by rfl, rfl⟩) hHeld ?_
    try simp only [Act.put, List.getElem_toArray, List.getElem_cons_succ, List.getElem_cons_zero, List.setIfInBounds_toArray, List.set_cons_zero, List.set_cons_succ]
    refine wpAnyH_ready (rs := [22]) (by kernel_rfl) (by simp) ?_
    refine AllReadyH.cons rfl (fun K hK => ?_) AllReadyH.nil
    refine step_buildAdG (by rfl) (.tmp 43) (by rfl) adA (by rfl) ?_; intro B44 wx h44 hbx; replace hS := hS.trans (hbx.mono hS.size); clear hbx
    refine hK.out _ _ ?_ (fun hHeld => ?_)
    · (try dsimp only); first | done | (exact hS)
    clear hK K
    try simp only [Act.put, List.getElem_toArray, List.getElem_cons_succ, List.getElem_cons_zero, List.setIfInBounds_toArray, List.set_cons_zero, List.set_cons_succ]
    refine wpAnyH_ready (rs := [23]) (by kernel_rfl) (by simp) ?_
    refine AllReadyH.cons rfl (fun K hK => ?_) AllReadyH.nil
    go_simp; go_at_call 11; refine (Has_any _ _ _ [(adB, 4), (adA, 5)] 2 7 _ 1 1 [adA] _ ((r1.below hS).more hS.size) (by omega) h44 (by omega)).mono ?_; rw [hH1.out]; rintro e wx ⟨rfl, hbx⟩; replace hS := hS.trans (hbx.mono hS.size); clear hbx; try go_wp2_with fail
    refine hK.out _ _ ?_ (fun hHeld => ?_)
    · (try dsimp only); first | done | (exact hS)
    clear hK K
    try simp only [Act.put, List.getElem_toArray, List.getElem_cons_succ, List.getElem_cons_zero, List.setIfInBounds_toArray, List.set_cons_zero, List.set_cons_succ]
    first
      | (refine wpAnyH_take (i := 24) (v := ?_) rfl (by kernel_rfl) (by kernel_rfl) (by kernel_rfl) (fun _ _ _ h => h) (Or.inl ⟨by rfl, ?_⟩) hHeld ?_; rotate_left; (intro wq hSw; (try dsimp only at hSw); go_simp; done))
      | (refine wpAnyH_take (i := 24) (v := ?_) rfl (by kernel_rfl) (by kernel_rfl) (by kernel_rfl) (fun _ _ _ h => h) (Or.inl ⟨by rfl, ?_⟩) hHeld ?_; rotate_left; (intro wq hSw; (try dsimp only at hSw); go_simp; with_reducible rfl))
      | refine wpAnyH_take (i := 24) (v := undef) rfl (by kernel_rfl) (by kernel_rfl) (by kernel_rfl) (fun _ _ _ h => h) (Or.inr ⟨by rfl, rfl⟩) hHeld ?_
    try simp only [Act.put, List.getElem_toArray, List.getElem_cons_succ, List.getElem_cons_zero, List.setIfInBounds_toArray, List.set_cons_zero, List.set_cons_succ]
    first
      | (refine wpAnyH_take (i := 25) (v := ?_) rfl (by kernel_rfl) (by kernel_rfl) (by kernel_rfl) (fun _ _ _ h => h) (Or.inl ⟨by rfl, ?_⟩) hHeld ?_; rotate_left; (intro wq hSw; (try dsimp only at hSw); go_simp; done))
      | (refine wpAnyH_take (i := 25) (v := ?_) rfl (by kernel_rfl) (by kernel_rfl) (by kernel_rfl) (fun _ _ _ h => h) (Or.inl ⟨by rfl, ?_⟩) hHeld ?_; rotate_left; (intro wq hSw; (try dsimp only at hSw); go_simp; with_reducible rfl))
      | refine wpAnyH_take (i := 25) (v := undef) rfl (by kernel_rfl) (by kernel_rfl) (by kernel_rfl) (fun _ _ _ h => h) (Or.inr ⟨by rfl, rfl⟩) hHeld ?_
    try simp only [Act.put, List.getElem_toArray, List.getElem_cons_succ, List.getElem_cons_zero, List.setIfInBounds_toArray, List.set_cons_zero, List.set_cons_succ]
    first
      | (refine wpAnyH_take (i := 26) (v := ?_) rfl (by kernel_rfl) (by kernel_rfl) (by kernel_rfl) (fun _ _ _ h => h) (Or.inl ⟨by rfl, ?_⟩) hHeld ?_; rotate_left; (intro wq hSw; (try dsimp only at hSw); go_simp; done))
      | (refine wpAnyH_take (i := 26) (v := ?_) rfl (by kernel_rfl) (by kernel_rfl) (by kernel_rfl) (fun _ _ _ h => h) (Or.inl ⟨by rfl, ?_⟩) hHeld ?_; rotate_left; (intro wq hSw; (try dsimp only at hSw); go_simp; with_reducible rfl))
      | refine wpAnyH_take (i := 26) (v := undef) rfl (by kernel_rfl) (by kernel_rfl) (by kernel_rfl) (fun _ _ _ h => h) (Or.inr ⟨by rfl, rfl⟩) hHeld ?_
    try simp only [Act.put, List.getElem_toArray, List.getElem_cons_succ, List.getElem_cons_zero, List.setIfInBounds_toArray, List.set_cons_zero, List.set_cons_succ]
    first
      | (refine wpAnyH_take (i := 27) (v := ?_) rfl (by kernel_rfl) (by kernel_rfl) (by kernel_rfl) (fun _ _ _ h => h) (Or.inl ⟨by rfl, ?_⟩) hHeld ?_; rotate_left; (intro wq hSw; (try dsimp only at hSw); go_simp; done))
      | (refine wpAnyH_take (i := 27) (v := ?_) rfl (by kernel_rfl) (by kernel_rfl) (by kernel_rfl) (fun _ _ _ h => h) (Or.inl ⟨by rfl, ?_⟩) hHeld ?_; rotate_left; (intro wq hSw; (try dsimp only at hSw); go_simp; with_reducible rfl))
      | refine wpAnyH_take (i := 27) (v := undef) rfl (by kernel_rfl) (by kernel_rfl) (by kernel_rfl) (fun _ _ _ h => h) (Or.inr ⟨by rfl, rfl⟩) hHeld ?_
    try simp only [Act.put, List.getElem_toArray, List.getElem_cons_succ, List.getElem_cons_zero, List.setIfInBounds_toArray, List.set_cons_zero, List.set_cons_succ]
    first
      | (refine wpAnyH_take (i := 28) (v := ?_) rfl (by kernel_rfl) (by kernel_rfl) (by kernel_rfl) (fun _ _ _ h => h) (Or.inl ⟨by rfl, ?_⟩) hHeld ?_; rotate_left; (intro wq hSw; (try dsimp only at hSw); obtain ⟨z0, z1, z2, z3, z4, z5, z6, z7, z8, z9⟩ := ad_cells ((hSw.block _ lA).trans hA); go_simp; done))
      | (refine wpAnyH_take (i := 28) (v := ?_) rfl (by kernel_rfl) (by kernel_rfl) (by kernel_rfl) (fun _ _ _ h => h) (Or.inl ⟨by rfl, ?_⟩) hHeld ?_; rotate_left; (intro wq hSw; (try dsimp only at hSw); obtain ⟨z0, z1, z2, z3, z4, z5, z6, z7, z8, z9⟩ := ad_cells ((hSw.block _ lA).trans hA); go_simp; with_reducible rfl))
      | refine wpAnyH_take (i := 28) (v := undef) rfl (by kernel_rfl) (by kernel_rfl) (by kernel_rfl) (fun _ _ _ h => h) (Or.inr ⟨by rfl, rfl⟩) hHeld ?_
    try simp only [Act.put, List.getElem_toArray, List.getElem_cons_succ, List.getElem_cons_zero, List.setIfInBounds_toArray, List.set_cons_zero, List.set_cons_succ]
    refine wpAnyH_ready (rs := [29]) (by kernel_rfl) (by simp) ?_
    refine AllReadyH.cons rfl (fun K hK => ?_) AllReadyH.nil
    refine step_buildAdG (by rfl) (.tmp 50) (by rfl) adA (by rfl) ?_; intro B51 wx h51 hbx; replace hS := hS.trans (hbx.mono hS.size); clear hbx
    refine hK.out _ _ ?_ (fun hHeld => ?_)
    · (try dsimp only); first | done | (exact hS)
    clear hK K
    try simp only [Act.put, List.getElem_toArray, List.getElem_cons_succ, List.getElem_cons_zero, List.setIfInBounds_toArray, List.set_cons_zero, List.set_cons_succ]
    refine wpAnyH_ready (rs := [30]) (by kernel_rfl) (by simp) ?_
    refine AllReadyH.cons rfl (fun K hK => ?_) AllReadyH.nil
    go_simp; go_at_call 11; refine (Has_any _ _ _ [(adB, 4), (adA, 5)] 2 6 _ 1 1 [adA] _ ((r1.below hS).more hS.size) (by omega) h51 (by omega)).mono ?_; rw [hH2.out]; rintro e wx ⟨rfl, hbx⟩; replace hS := hS.trans (hbx.mono hS.size); clear hbx; try go_wp2_with fail
    refine hK.out _ _ ?_ (fun hHeld => ?_)
    · (try dsimp only); first | done | (exact hS)
    clear hK K
    try simp only [Act.put, List.getElem_toArray, List.getElem_cons_succ, List.getElem_cons_zero, List.setIfInBounds_toArray, List.set_cons_zero, List.set_cons_succ]
    first
      | (refine wpAnyH_take (i := 31) (v := ?_) rfl (by kernel_rfl) (by kernel_rfl) (by kernel_rfl) (fun _ _ _ h => h) (Or.inl ⟨by rfl, ?_⟩) hHeld ?_; rotate_left; (intro wq hSw; (try dsimp only at hSw); go_simp; done))
      | (refine wpAnyH_take (i := 31) (v := ?_) rfl (by kernel_rfl) (by kernel_rfl) (by kernel_rfl) (fun _ _ _ h => h) (Or.inl ⟨by rfl, ?_⟩) hHeld ?_; rotate_left; (intro wq hSw; (try dsimp only at hSw); go_simp; with_reducible rfl))
      | refine wpAnyH_take (i := 31) (v := undef) rfl (by kernel_rfl) (by kernel_rfl) (by kernel_rfl) (fun _ _ _ h => h) (Or.inr ⟨by rfl, rfl⟩) hHeld ?_
    try simp only [Act.put, List.getElem_toArray, List.getElem_cons_succ, List.getElem_cons_zero, List.setIfInBounds_toArray, List.set_cons_zero, List.set_cons_succ]
    first
      | (refine wpAnyH_take (i := 32) (v := ?_) rfl (by kernel_rfl) (by kernel_rfl) (by kernel_rfl) (fun _ _ _ h => h) (Or.inl ⟨by rfl, ?_⟩) hHeld ?_; rotate_left; (intro wq hSw; (try dsimp only at hSw); go_simp; done))
      | (refine wpAnyH_take (i := 32) (v := ?_) rfl (by kernel_rfl) (by kernel_rfl) (by kernel_rfl) (fun _ _ _ h => h) (Or.inl ⟨by rfl, ?_⟩) hHeld ?_; rotate_left; (intro wq hSw; (try dsimp only at hSw); go_simp; with_reducible rfl))
      | refine wpAnyH_take (i := 32) (v := undef) rfl (by kernel_rfl) (by kernel_rfl) (by kernel_rfl) (fun _ _ _ h => h) (Or.inr ⟨by rfl, rfl⟩) hHeld ?_
    try simp only [Act.put, List.getElem_toArray, List.getElem_cons_succ, List.getElem_cons_zero, List.setIfInBounds_toArray, List.set_cons_zero, List.set_cons_succ]
    first
      | (refine wpAnyH_take (i := 33) (v := ?_) rfl (by kernel_rfl) (by kernel_rfl) (by kernel_rfl) (fun _ _ _ h => h) (Or.inl ⟨by rfl, ?_⟩) hHeld ?_; rotate_left; (intro wq hSw; (try dsimp only at hSw); go_simp; done))
      | (refine wpAnyH_take (i := 33) (v := ?_) rfl (by kernel_rfl) (by kernel_rfl) (by kernel_rfl) (fun _ _ _ h => h) (Or.inl ⟨by rfl, ?_⟩) hHeld ?_; rotate_left; (intro wq hSw; (try dsimp only at hSw); go_simp; with_reducible rfl))
      | refine wpAnyH_take (i := 33) (v := undef) rfl (by kernel_rfl) (by kernel_rfl) (by kernel_rfl) (fun _ _ _ h => h) (Or.inr ⟨by rfl, rfl⟩) hHeld ?_
    try simp only [Act.put, List.getElem_toArray, List.getElem_cons_succ, List.getElem_cons_zero, List.setIfInBounds_toArray, List.set_cons_zero, List.set_cons_succ]
    first
      | (refine wpAnyH_take (i := 34) (v := ?_) rfl (by kernel_rfl) (by kernel_rfl) (by kernel_rfl) (fun _ _ _ h => h) (Or.inl ⟨by rfl, ?_⟩) hHeld ?_; rotate_left; (intro wq hSw; (try dsimp only at hSw); go_simp; done))
      | (refine wpAnyH_take (i := 34) (v := ?_) rfl (by kernel_rfl) (by kernel_rfl) (by kernel_rfl) (fun _ _ _ h => h) (Or.inl ⟨by rfl, ?_⟩) hHeld ?_; rotate_left; (intro wq hSw; (try dsimp only at hSw); go_simp; with_reducible rfl))
      | refine wpAnyH_take (i := 34) (v := undef) rfl (by kernel_rfl) (by kernel_rfl) (by kernel_rfl) (fun _ _ _ h => h) (Or.inr ⟨by rfl, rfl⟩) hHeld ?_
    try simp only [Act.put, List.getElem_toArray, List.getElem_cons_succ, List.getElem_cons_zero, List.setIfInBounds_toArray, List.set_cons_zero, List.set_cons_succ]
    first
      | (refine wpAnyH_take (i := 35) (v := ?_) rfl (by kernel_rfl) (by kernel_rfl) (by kernel_rfl) (fun _ _ _ h => h) (Or.inl ⟨by rfl, ?_⟩) hHeld ?_; rotate_left; (intro wq hSw; (try dsimp only at hSw); go_simp; done))
      | (refine wpAnyH_take (i := 35) (v := ?_) rfl (by kernel_rfl) (by kernel_rfl) (by kernel_rfl) (fun _ _ _ h => h) (Or.inl ⟨by rfl, ?_⟩) hHeld ?_; rotate_left; (intro wq hSw; (try dsimp only at hSw); go_simp; with_reducible rfl))
      | refine wpAnyH_take (i := 35) (v := undef) rfl (by kernel_rfl) (by kernel_rfl) (by kernel_rfl) (fun _ _ _ h => h) (Or.inr ⟨by rfl, rfl⟩) hHeld ?_
    try simp only [Act.put, List.getElem_toArray, List.getElem_cons_succ, List.getElem_cons_zero, List.setIfInBounds_toArray, List.set_cons_zero, List.set_cons_succ]
    first
      | (refine wpAnyH_take (i := 36) (v := ?_) rfl (by kernel_rfl) (by kernel_rfl) (by kernel_rfl) (fun _ _ _ h => h) (Or.inl ⟨by rfl, ?_⟩) hHeld ?_; rotate_left; (intro wq hSw; (try dsimp only at hSw); obtain ⟨z0, z1, z2, z3, z4, z5, z6, z7, z8, z9⟩ := ad_cells ((hSw.block _ lC).trans hC); go_simp; done))
      | (refine wpAnyH_take (i := 36) (v := ?_) rfl (by kernel_rfl) (by kernel_rfl) (by kernel_rfl) (fun _ _ _ h => h) (Or.inl ⟨by rfl, ?_⟩) hHeld ?_; rotate_left; (intro wq hSw; (try dsimp only at hSw); obtain ⟨z0, z1, z2, z3, z4, z5, z6, z7, z8, z9⟩ := ad_cells ((hSw.block _ lC).trans hC); go_simp; with_reducible rfl))
      | refine wpAnyH_take (i := 36) (v := undef) rfl (by kernel_rfl) (by kernel_rfl) (by kernel_rfl) (fun _ _ _ h => h) (Or.inr ⟨by rfl, rfl⟩) hHeld ?_
    try simp only [Act.put, List.getElem_toArray, List.getElem_cons_succ, List.getElem_cons_zero, List.setIfInBounds_toArray, List.set_cons_zero, List.set_cons_succ]
    first
      | (refine wpAnyH_take (i := 37) (v := ?_) rfl (by kernel_rfl) (by kernel_rfl) (by kernel_rfl) (fun _ _ _ h => h) (Or.inl ⟨by rfl, ?_⟩) hHeld ?_; rotate_left; (intro wq hSw; (try dsimp only at hSw); obtain ⟨z0, z1, z2, z3, z4, z5, z6, z7, z8, z9⟩ := ad_cells ((hSw.block _ lA).trans hA); go_simp; done))
      | (refine wpAnyH_take (i := 37) (v := ?_) rfl (by kernel_rfl) (by kernel_rfl) (by kernel_rfl) (fun _ _ _ h => h) (Or.inl ⟨by rfl, ?_⟩) hHeld ?_; rotate_left; (intro wq hSw; (try dsimp only at hSw); obtain ⟨z0, z1, z2, z3, z4, z5, z6, z7, z8, z9⟩ := ad_cells ((hSw.block _ lA).trans hA); go_simp; with_reducible rfl))
      | refine wpAnyH_take (i := 37) (v := undef) rfl (by kernel_rfl) (by kernel_rfl) (by kernel_rfl) (fun _ _ _ h => h) (Or.inr ⟨by rfl, rfl⟩) hHeld ?_
    try simp only [Act.put, List.getElem_toArray, List.getElem_cons_succ, List.getElem_cons_zero, List.setIfInBounds_toArray, List.set_cons_zero, List.set_cons_succ]
    first
      | (refine wpAnyH_take (i := 38) (v := ?_) rfl (by kernel_rfl) (by kernel_rfl) (by kernel_rfl) (fun _ _ _ h => h) (Or.inl ⟨by rfl, ?_⟩) hHeld ?_; rotate_left; (intro wq hSw; (try dsimp only at hSw); go_simp; done))
      | (refine wpAnyH_take (i := 38) (v := ?_) rfl (by kernel_rfl) (by kernel_rfl) (by kernel_rfl) (fun _ _ _ h => h) (Or.inl ⟨by rfl, ?_⟩) hHeld ?_; rotate_left; (intro wq hSw; (try dsimp only at hSw); go_simp; with_reducible rfl))
      | refine wpAnyH_take (i := 38) (v := undef) rfl (by kernel_rfl) (by kernel_rfl) (by kernel_rfl) (fun _ _ _ h => h) (Or.inr ⟨by rfl, rfl⟩) hHeld ?_
    try simp only [Act.put, List.getElem_toArray, List.getElem_cons_succ, List.getElem_cons_zero, List.setIfInBounds_toArray, List.set_cons_zero, List.set_cons_succ]
    first
      | (refine wpAnyH_take (i := 39) (v := ?_) rfl (by kernel_rfl) (by kernel_rfl) (by kernel_rfl) (fun _ _ _ h => h) (Or.inl ⟨by rfl, ?_⟩) hHeld ?_; rotate_left; (intro wq hSw; (try dsimp only at hSw); go_simp; done))
      | (refine wpAnyH_take (i := 39) (v := ?_) rfl (by kernel_rfl) (by kernel_rfl) (by kernel_rfl) (fun _ _ _ h => h) (Or.inl ⟨by rfl, ?_⟩) hHeld ?_; rotate_left; (intro wq hSw; (try dsimp only at hSw); go_simp; with_reducible rfl))
      | refine wpAnyH_take (i := 39) (v := undef) rfl (by kernel_rfl) (by kernel_rfl) (by kernel_rfl) (fun _ _ _ h => h) (Or.inr ⟨by rfl, rfl⟩) hHeld ?_
    try simp only [Act.put, List.getElem_toArray, List.getElem_cons_succ, List.getElem_cons_zero, List.setIfInBounds_toArray, List.set_cons_zero, List.set_cons_succ]
    first
      | (refine wpAnyH_take (i := 40) (v := ?_) rfl (by kernel_rfl) (by kernel_rfl) (by kernel_rfl) (fun _ _ _ h => h) (Or.inl ⟨by rfl, ?_⟩) hHeld ?_; rotate_left; (intro wq hSw; (try dsimp only at hSw); go_simp; done))
      | (refine wpAnyH_take (i := 40) (v := ?_) rfl (by kernel_rfl) (by kernel_rfl) (by kernel_rfl) (fun _ _ _ h => h) (Or.inl ⟨by rfl, ?_⟩) hHeld ?_; rotate_left; (intro wq hSw; (try dsimp only at hSw); go_simp; with_reducible rfl))
      | refine wpAnyH_take (i := 40) (v := undef) rfl (by kernel_rfl) (by kernel_rfl) (by kernel_rfl) (fun _ _ _ h => h) (Or.inr ⟨by rfl, rfl⟩) hHeld ?_
    try simp only [Act.put, List.getElem_toArray, List.getElem_cons_succ, List.getElem_cons_zero, List.setIfInBounds_toArray, List.set_cons_zero, List.set_cons_succ]
    refine wpAnyH_done (by kernel_rfl) ?_ _
    skip
    go_wp2_with fail
    go_ret
    exact ⟨rfl, hb.trans (hS.mono hb.size)⟩
end Go.Proofs.Ytgpijomnnnjgkaa
