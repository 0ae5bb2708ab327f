/-
  What the methods of idle's rows compute: part, for whatever test. Conditions: a slice argument reads as a list of at most 100000 pairs; the test's calls return and write nothing that was there.
-/
import Derived.Test.YtepofpbpolenlaaRest
import Derived.OneCell
import Derived.Shelf.Abstract
import Derived.Deep.AppendLies
namespace Go.Proofs.Ytepofpbpolenlaa
open Go.RowKit Go.Shelf

theorem Recs.keepB {α : Type} {enc : α → List Value} {k : Nat} {w w' : World} {B n : Nat} {A : Option Addr} {xs : List α} (h : Recs enc k w B A n xs) (hk : ∀ b off, b < B → w'.cell? ⟨b, off, none⟩ = w.cell? ⟨b, off, none⟩) : Recs enc k w' B A n xs := ⟨h.1, h.2.keep hk⟩

/-- Two rows that lie apart. -/
def Apart (A1 : Option Addr) (c1 : Nat) (A2 : Option Addr) (c2 : Nat) : Prop := ∀ g, rowOf A1 c1 = some g → rowOf A2 c2 ≠ some g
theorem Apart.symm {A1 A2 : Option Addr} {c1 c2 : Nat} (h : Apart A1 c1 A2 c2) : Apart A2 c2 A1 c1 := fun g h1 h2 => h g h2 h1

structure PInv (w : World) (l : List Re) (p : Re → Bool) (k : Nat) (A1 : Option Addr) (c1 : Nat) (A2 : Option Addr) (c2 : Nat) (wr : World) : Prop where
  yes : wr.heap[w.heap.size]? = some (.cells #[.slice A1 ((l.take k).filter p).length c1] 24 (0, 0))
  no : wr.heap[w.heap.size + 1]? = some (.cells #[.slice A2 ((l.take k).filter (fun x => !p x)).length c2] 24 (0, 0))
  own1 : OwRe wr (w.heap.size + 2) A1 ((l.take k).filter p).length c1 ((l.take k).filter p)
  own2 : OwRe wr (w.heap.size + 2) A2 ((l.take k).filter (fun x => !p x)).length c2 ((l.take k).filter (fun x => !p x))
  apart : Apart A1 c1 A2 c2
  below : Below w.heap.size w wr
  size : w.heap.size + 2 ≤ wr.heap.size
def PRel (w : World) (l : List Re) (p : Re → Bool) (n : Nat) (s14 : Value) (wr : World) : Prop := ∃ (k : Nat) (A1 : Option Addr) (c1 : Nat) (A2 : Option Addr) (c2 : Nat), k ≤ n ∧ s14 = .int .i64 k ∧ PInv w l p k A1 c1 A2 c2 wr

theorem PInv.keep {w wr w2 : World} {l : List Re} {p : Re → Bool} {k : Nat} {A1 A2 : Option Addr} {c1 c2 : Nat} (h : PInv w l p k A1 c1 A2 c2 wr) (hb : Below wr.heap.size wr w2) : PInv w l p k A1 c1 A2 c2 w2 where
  yes := by rw [hb.block _ (by have := h.size; omega)]; exact h.yes
  no := by rw [hb.block _ (by have := h.size; omega)]; exact h.no
  own1 := h.own1.below hb
  own2 := h.own2.below hb
  apart := h.apart
  below := h.below.trans (hb.mono h.below.size)
  size := Nat.le_trans h.size hb.size
theorem PInv.drew {w wr : World} {l : List Re} {p : Re → Bool} {k : Nat} {A1 A2 : Option Addr} {c1 c2 : Nat} (h : PInv w l p k A1 c1 A2 c2 wr) : PInv w l p k A1 c1 A2 c2 wr.drew := h.keep (Below.refl wr.heap.size wr).drew
theorem row_ne {w : World} {base g : Nat} {e : TypeId} {k : Nat} {A : Option Addr} {n c : Nat} {xs : List Value} (h : Ow w base e k A n c xs) (hg : g < base) : some g ≠ rowOf A c := fun e => by have := (h.row g e.symm).1; omega
theorem PInv.stepNo {w wr w3 : World} {l : List Re} {p : Re → Bool} {k : Nat} {A1 A2 A' : Option Addr} {c1 c2 c' : Nat} (h : PInv w l p k A1 c1 A2 c2 wr) {x : Re} (hx : l[k]? = some x) (hp : p x = false)
    (ho : OwRe w3 (w.heap.size + 2) A' (((l.take k).filter (fun x => !p x)).length + 1) c' ((l.take k).filter (fun x => !p x) ++ [x])) (hg : wr.grownBy w3 (rowOf A2 c2))
    (hr : rowOf A' c' = rowOf A2 c2 ∨ (rowOf A' c' = some wr.heap.size ∧ 0 < 1)) :
    PInv w l p (k + 1) A1 c1 A' c' (w3.setCell ⟨w.heap.size + 1, 0, none⟩ (.slice A' (((l.take k).filter (fun x => !p x)).length + 1) c')) := by
  have h1 : (l.take (k + 1)).filter p = (l.take k).filter p := by rw [take_succ_of hx, List.filter_append]; simp [hp]
  have h2 : (l.take (k + 1)).filter (fun x => !p x) = (l.take k).filter (fun x => !p x) ++ [x] := by rw [take_succ_of hx, List.filter_append]; simp [hp]
  have hs := h.size
  have hap : Apart A1 c1 A' c' := by
    intro g e1 e2
    rcases hr with hr | ⟨hr, _⟩
    · exact h.apart g e1 (by rw [← hr]; exact e2)
    · rw [hr] at e2
      injection e2 with e2
      have := (Ow.row h.own1.2 g e1).2
      omega
  refine ⟨?_, ?_, ?_, ?_, hap, ?_, ?_⟩
  · rw [h1, Below.heap_setCell _ _ _ _ (by simp), hg.block _ (by omega) (row_ne h.own2.2 (by omega))]; exact h.yes
  · rw [h2, List.length_append]
    exact one_setCell (v := .slice A2 ((l.take k).filter (fun x => !p x)).length c2) (by rw [hg.block _ (by omega) (row_ne h.own2.2 (by omega))]; exact h.no)
  · rw [h1]
    refine ⟨h.own1.1, (Ow.kept h.own1.2 hg ?_).set (fun g hg e => ?_) _⟩
    · cases hq : rowOf A1 c1 with
      | none => exact .inl rfl
      | some q => right; intro e; exact h.apart q hq e.symm
    · have := (Ow.row h.own1.2 g hg).1; simp at e; omega
  · rw [h2, List.length_append]
    refine ⟨ho.1, ho.2.set (fun g hg e => ?_) _⟩
    have := (Ow.row ho.2 g hg).1; simp at e; omega
  · exact (h.below.grown hg h.below.size (fun g hg => by have := (Ow.row h.own2.2 g hg).1; omega)).setCell (p := ⟨w.heap.size + 1, 0, none⟩) (by simp) _
  · have := hg.size; simp; omega
theorem PInv.stepYes {w wr w3 : World} {l : List Re} {p : Re → Bool} {k : Nat} {A1 A2 A' : Option Addr} {c1 c2 c' : Nat} (h : PInv w l p k A1 c1 A2 c2 wr) {x : Re} (hx : l[k]? = some x) (hp : p x = true)
    (ho : OwRe w3 (w.heap.size + 2) A' (((l.take k).filter p).length + 1) c' ((l.take k).filter p ++ [x])) (hg : wr.grownBy w3 (rowOf A1 c1))
    (hr : rowOf A' c' = rowOf A1 c1 ∨ (rowOf A' c' = some wr.heap.size ∧ 0 < 1)) :
    PInv w l p (k + 1) A' c' A2 c2 (w3.setCell ⟨w.heap.size, 0, none⟩ (.slice A' (((l.take k).filter p).length + 1) c')) := by
  have h1 : (l.take (k + 1)).filter (fun x => !p x) = (l.take k).filter (fun x => !p x) := by rw [take_succ_of hx, List.filter_append]; simp [hp]
  have h2 : (l.take (k + 1)).filter p = (l.take k).filter p ++ [x] := by rw [take_succ_of hx, List.filter_append]; simp [hp]
  have hs := h.size
  have hap : Apart A' c' A2 c2 := by
    intro g e1 e2
    rcases hr with hr | ⟨hr, _⟩
    · exact h.apart g (by rw [← hr]; exact e1) e2
    · rw [hr] at e1
      injection e1 with e1
      have := (Ow.row h.own2.2 g e2).2
      omega
  refine ⟨?_, ?_, ?_, ?_, hap, ?_, ?_⟩
  · rw [h2, List.length_append]
    exact one_setCell (v := .slice A1 ((l.take k).filter p).length c1) (by rw [hg.block _ (by omega) (row_ne h.own1.2 (by omega))]; exact h.yes)
  · rw [h1, Below.heap_setCell _ _ _ _ (by simp), hg.block _ (by omega) (row_ne h.own1.2 (by omega))]; exact h.no
  · rw [h2, List.length_append]
    refine ⟨ho.1, ho.2.set (fun g hg e => ?_) _⟩
    have := (Ow.row ho.2 g hg).1; simp at e; omega
  · rw [h1]
    refine ⟨h.own2.1, (Ow.kept h.own2.2 hg ?_).set (fun g hg e => ?_) _⟩
    · cases hq : rowOf A2 c2 with
      | none => exact .inl rfl
      | some q => right; intro e; exact h.apart q e.symm hq
    · have := (Ow.row h.own2.2 g hg).1; simp at e; omega
  · exact (h.below.grown hg h.below.size (fun g hg => by have := (Ow.row h.own1.2 g hg).1; omega)).setCell (p := ⟨w.heap.size, 0, none⟩) (by simp) _
  · have := hg.size; simp; omega

set_option maxRecDepth 100000 in
set_option maxHeartbeats 2000000 in
theorem Part_any (fid : FuncId) (eg : ∀ args w, (callFunc fid args).run Try.prog w = .ok (.enter fid args) w) (caps : Array Value) (p : Re → Bool) (gr : Nat) (A : Option Addr) (n c : Nat) (l : List Re) (w : World) (hgr : gr < w.heap.size) (hr : w.cell? ⟨gr, 0, none⟩ = some (.slice A n c)) (hl : Res w w.heap.size A n l) (hn : n ≤ 1000)
    (hf : ∀ (x : Re) (wx : World), Below w.heap.size w wx → Calls Try.prog fid (#[.agg #[.int .i64 x.1, .int .i64 x.2]] ++ caps) wx fun e w' => e = .returned (.bool (p x)) ∧ Below wx.heap.size wx w') :
    Calls Try.prog 36 #[.pointer (some ⟨gr, 0, none⟩), .func (.func fid) #[] caps] w fun e w' => ∃ A1 c1 A2 c2, e = .returned (.tuple #[.slice A1 (l.filter p).length c1, .slice A2 (l.filter (fun x => !p x)).length c2]) ∧
      OwRe w' w.heap.size A1 (l.filter p).length c1 (l.filter p) ∧ OwRe w' w.heap.size A2 (l.filter (fun x => !p x)).length c2 (l.filter (fun x => !p x)) ∧ Below w.heap.size w w' := by
  have HL := Lib.hid hl.1
  have HF := Lib.hid hf
  clear hf
  go_enter Try.func36, Try.ntmps36
  go_wp2_with fail
  go_loopw [14] (fun s14 wr => PRel w l p n s14 wr) (fun s14 _ => n - (intOf s14).toNat)
  case atStart =>
    refine ⟨0, none, 0, none, 0, Nat.zero_le _, rfl, ?_, ?_, OwR.nil_ _ _ _ _, OwR.nil_ _ _ _ _, fun g h => by simp [rowOf] at h, (Below.new_ _ _).alloc (by simp) _, by simp⟩
    · rw [Below.heap_alloc _ _ _ (by simp)]; exact heap_alloc_new w _
    · have h := heap_alloc_new (w.alloc (.cells #[.slice none 0 0] 24)) (.cells #[.slice none 0 0] 24)
      rw [World.size_alloc] at h
      exact h
  case round =>
    obtain ⟨k, A1, c1, A2, c2, hk, rfl, hi⟩ := hrel
    by_cases hlt : k < n
    · obtain ⟨b, off, x, rfl, hbb, hx, hc1, hc2⟩ := Res.cells (hl.below hi.below) hlt
      have hcall := HF.out x (wr.alloc (.cells #[.int .i64 x.1, .int .i64 x.2] 32)) (hi.below.alloc hi.below.size _)
      cases hp : p x
      · rw [hp] at hcall
        have hi2 := hi.keep (Below.new_ wr (.cells #[.int .i64 x.1, .int .i64 x.2] 32))
        go_wp2_with (go_at_fn fid; refine hcall.mono ?_; rintro e w2 ⟨rfl, hb2⟩)
        replace hi2 := hi2.keep hb2
        have hx1 : w2.cell? ⟨wr.heap.size, 0, none⟩ = some (.int .i64 x.1) := (hb2.cell (p := ⟨wr.heap.size, 0, none⟩) (by simp)).trans (by simp)
        have hx2 : w2.cell? ⟨wr.heap.size, 1, none⟩ = some (.int .i64 x.2) := (hb2.cell (p := ⟨wr.heap.size, 1, none⟩) (by simp)).trans (by simp)
        have hto := cell_of_one hi2.no
        have hfr := free_of_one hi2.no
        have hsz := hi2.size
        have hxs : wr.heap.size < w2.heap.size := by have := hb2.size; simp at this; omega
        have hi3 := (hi2.keep (Below.new_ w2 (.cells #[.int .i64 x.1, .int .i64 x.2] 32))).drew
        have hlen : ((l.take k).filter (fun x => !p x)).length ≤ 1000 := Nat.le_trans (List.length_filter_le _ _) (Nat.le_trans (List.length_take_le _ _) (by omega))
        have HP := Lib.hid hp
        clear hp hi hcall hb2 hc1 hc2
        have lt1 : w.heap.size + 1 < w2.heap.size := by omega
        go_region_law ((refine step_appRe (by rfl) (.tmp 24) (.tmp 26) (by rfl) (w.heap.size + 2) _ _ _ _ (by rfl) hi3.own2 (w2.heap.size + 1) _ _ _ [x] (by rfl) ((Res.new1 w2 _ rfl x _).drew) (by omega) (by simp; omega) ?_; intro A' c' w3 hown hgrow hrow; have hto3 : w3.cell? ⟨w.heap.size + 1, 0, none⟩ = some (.slice A2 ((l.take k).filter (fun x => !p x)).length c2) := (hgrow.cell_far _ (by simp; omega) (row_ne hi3.own2.2 (by simp))).trans (cell_of_one hi3.no); have hfr3 : w3.frozen? ⟨w.heap.size + 1, 0, none⟩ = false := (hgrow.frozen_far _ (by simp; omega) (row_ne hi3.own2.2 (by simp))).trans (free_of_one hi3.no)))
        all_goals
          have hi4 := hi3.stepNo hx.out HP.out hown hgrow hrow
          clear hown hgrow hrow hto3 hfr3 hi3 hi2 hto hfr hx1 hx2
          go_wp2_with fail
          go_roundw
          case rel => exact ⟨k + 1, A1, c1, A', c', by omega, by go_num, hi4⟩
          case measure => simp [intOf]; omega
      · rw [hp] at hcall
        have hi2 := hi.keep (Below.new_ wr (.cells #[.int .i64 x.1, .int .i64 x.2] 32))
        go_wp2_with (go_at_fn fid; refine hcall.mono ?_; rintro e w2 ⟨rfl, hb2⟩)
        replace hi2 := hi2.keep hb2
        have hx1 : w2.cell? ⟨wr.heap.size, 0, none⟩ = some (.int .i64 x.1) := (hb2.cell (p := ⟨wr.heap.size, 0, none⟩) (by simp)).trans (by simp)
        have hx2 : w2.cell? ⟨wr.heap.size, 1, none⟩ = some (.int .i64 x.2) := (hb2.cell (p := ⟨wr.heap.size, 1, none⟩) (by simp)).trans (by simp)
        have hto := cell_of_one hi2.yes
        have hfr := free_of_one hi2.yes
        have hsz := hi2.size
        have hxs : wr.heap.size < w2.heap.size := by have := hb2.size; simp at this; omega
        have hi3 := (hi2.keep (Below.new_ w2 (.cells #[.int .i64 x.1, .int .i64 x.2] 32))).drew
        have hlen : ((l.take k).filter p).length ≤ 1000 := Nat.le_trans (List.length_filter_le _ _) (Nat.le_trans (List.length_take_le _ _) (by omega))
        have HP := Lib.hid hp
        clear hp hi hcall hb2 hc1 hc2
        have lt1 : w.heap.size < w2.heap.size := by omega
        go_region_law ((refine step_appRe (by rfl) (.tmp 24) (.tmp 26) (by rfl) (w.heap.size + 2) _ _ _ _ (by rfl) hi3.own1 (w2.heap.size + 1) _ _ _ [x] (by rfl) ((Res.new1 w2 _ rfl x _).drew) (by omega) (by simp; omega) ?_; intro A' c' w3 hown hgrow hrow; have hto3 : w3.cell? ⟨w.heap.size, 0, none⟩ = some (.slice A1 ((l.take k).filter p).length c1) := (hgrow.cell_far _ (by simp; omega) (row_ne hi3.own1.2 (by simp))).trans (cell_of_one hi3.yes); have hfr3 : w3.frozen? ⟨w.heap.size, 0, none⟩ = false := (hgrow.frozen_far _ (by simp; omega) (row_ne hi3.own1.2 (by simp))).trans (free_of_one hi3.yes)))
        all_goals
          have hi4 := hi3.stepYes hx.out HP.out hown hgrow hrow
          clear hown hgrow hrow hto3 hfr3 hi3 hi2 hto hfr hx1 hx2
          go_wp2_with fail
          go_roundw
          case rel => exact ⟨k + 1, A', c', A2, c2, by omega, by go_num, hi4⟩
          case measure => simp [intOf]; omega
    · obtain rfl : k = n := by omega
      have ht : l.take k = l := List.take_of_length_le (by rw [HL.out]; omega)
      have h1 := cell_of_one hi.yes
      have h2 := free_of_one hi.yes
      have h3 := cell_of_one hi.no
      have h4 := free_of_one hi.no
      have hsz := hi.size
      have o1 := hi.own1
      have o2 := hi.own2
      have hb := hi.below
      have hy := hi.yes
      have hn' := hi.no
      rw [ht] at h1 h3 o1 o2 hy hn'
      clear ht hi
      obtain ⟨L1, hL1⟩ : ∃ m, m = (l.filter p).length := ⟨_, rfl⟩
      obtain ⟨L2, hL2⟩ : ∃ m, m = (l.filter (fun x => !p x)).length := ⟨_, rfl⟩
      rw [← hL1] at h1 o1 hy
      rw [← hL2] at h3 o2 hn'
      have HL1 := Lib.hid hL1
      have HL2 := Lib.hid hL2
      clear hL1 hL2
      have ws1 : ((wr.setCell ⟨w.heap.size, 0, none⟩ (.slice A1 L1 c1)).setCell ⟨w.heap.size + 1, 0, none⟩ (.slice A2 L2 c2)).heap[w.heap.size]? = some (.cells #[.slice A1 L1 c1] 24 (0, 0)) := by
        rw [Below.heap_setCell _ _ _ _ (by simp)]; exact one_setCell hy
      have ws2 : ((wr.setCell ⟨w.heap.size, 0, none⟩ (.slice A1 L1 c1)).setCell ⟨w.heap.size + 1, 0, none⟩ (.slice A2 L2 c2)).heap[w.heap.size + 1]? = some (.cells #[.slice A2 L2 c2] 24 (0, 0)) := by
        refine one_setCell (v := .slice A2 L2 c2) ?_
        rw [Below.heap_setCell _ _ _ _ (by simp)]; exact hn'
      have k1 := cell_of_one ws1
      have k2 := cell_of_one ws2
      clear ws1 ws2 hy hn'
      go_wp2_with fail
      refine bodyPost_ret (v := .tuple #[.slice A1 L1 c1, .slice A2 L2 c2]) (by simp [results, Try.results36, go_sem, k1, k2]) rfl ⟨A1, c1, A2, c2, by rw [HL1.out, HL2.out], ?_, ?_, ?_⟩
      · rw [← HL1.out]
        exact ⟨o1.1, ((Ow.rebase o1.2 (base' := w.heap.size) (by omega)).set (fun g hg e => by have := (Ow.row o1.2 g hg).1; simp at e; omega) _).set (fun g hg e => by have := (Ow.row o1.2 g hg).1; simp at e; omega) _⟩
      · rw [← HL2.out]
        exact ⟨o2.1, ((Ow.rebase o2.2 (base' := w.heap.size) (by omega)).set (fun g hg e => by have := (Ow.row o2.2 g hg).1; simp at e; omega) _).set (fun g hg e => by have := (Ow.row o2.2 g hg).1; simp at e; omega) _⟩
      · exact (hb.setCell (p := ⟨w.heap.size, 0, none⟩) (Nat.le_refl _) _).setCell (p := ⟨w.heap.size + 1, 0, none⟩) (by simp) _
end Go.Proofs.Ytepofpbpolenlaa
