/-
  What scar.Worst and scar.Note compute. Conditions: the slice arguments read as lists of at most 1000 in all.
-/
import Derived.Test.YtgpijomnnnjgkaaScar4
namespace Go.Proofs.Ytgpijomnnnjgkaa
open Go.RowKit Go.Shelf

def zeroAd : Ad := (0, 0, 0, 0, 0, 0, 0, 0, 0, 0)
def worstL (l : List Sc) : Ad := match l.getLast? with
  | some x => x.1
  | none => zeroAd
theorem worstL_at {l : List Sc} {n : Nat} {x : Sc} (hl : l.length = n) (hx : l[n - 1]? = some x) : worstL l = x.1 := by
  unfold worstL
  rw [List.getLast?_eq_getElem?, hl, hx]
theorem worstL_none {l : List Sc} (hl : l.length = 0) : worstL l = zeroAd := by
  rw [List.eq_nil_of_length_eq_zero hl]; rfl
theorem ad_free {w : World} {g : Nat} {cur : Array Value} {t : TypeId} (h : w.heap[g]? = some (.cells cur t (0, 0))) :
    w.frozen? ⟨g, 0, none⟩ = false ∧ w.frozen? ⟨g, 1, none⟩ = false ∧ w.frozen? ⟨g, 2, none⟩ = false ∧ w.frozen? ⟨g, 3, none⟩ = false ∧ w.frozen? ⟨g, 4, none⟩ = false ∧ w.frozen? ⟨g, 5, none⟩ = false ∧ w.frozen? ⟨g, 6, none⟩ = false ∧ w.frozen? ⟨g, 7, none⟩ = false ∧ w.frozen? ⟨g, 8, none⟩ = false ∧ w.frozen? ⟨g, 9, none⟩ = false := by
  refine ⟨?_, ?_, ?_, ?_, ?_, ?_, ?_, ?_, ?_, ?_⟩ <;> simp [World.frozen?, h]
def putAd (w : World) (g : Nat) (y : Ad) : World := ((((((((((w.setCell ⟨g, 0, none⟩ (.int .i8 y.1)).setCell ⟨g, 1, none⟩ (.int .u16 y.2.1)).setCell ⟨g, 2, none⟩ (.int .u16 y.2.2.1)).setCell ⟨g, 3, none⟩ (.int .u16 y.2.2.2.1)).setCell ⟨g, 4, none⟩ (.int .u16 y.2.2.2.2.1)).setCell ⟨g, 5, none⟩ (.int .u16 y.2.2.2.2.2.1)).setCell ⟨g, 6, none⟩ (.int .u16 y.2.2.2.2.2.2.1)).setCell ⟨g, 7, none⟩ (.int .u16 y.2.2.2.2.2.2.2.1)).setCell ⟨g, 8, none⟩ (.int .u16 y.2.2.2.2.2.2.2.2.1)).setCell ⟨g, 9, none⟩ (.int .i64 y.2.2.2.2.2.2.2.2.2))
theorem putAd_at {w : World} {g : Nat} {x : Ad} {t : TypeId} (y : Ad) (h : w.heap[g]? = some (.cells #[.int .i8 x.1, .int .u16 x.2.1, .int .u16 x.2.2.1, .int .u16 x.2.2.2.1, .int .u16 x.2.2.2.2.1, .int .u16 x.2.2.2.2.2.1, .int .u16 x.2.2.2.2.2.2.1, .int .u16 x.2.2.2.2.2.2.2.1, .int .u16 x.2.2.2.2.2.2.2.2.1, .int .i64 x.2.2.2.2.2.2.2.2.2] t (0, 0))) : (putAd w g y).heap[g]? = some (.cells #[.int .i8 y.1, .int .u16 y.2.1, .int .u16 y.2.2.1, .int .u16 y.2.2.2.1, .int .u16 y.2.2.2.2.1, .int .u16 y.2.2.2.2.2.1, .int .u16 y.2.2.2.2.2.2.1, .int .u16 y.2.2.2.2.2.2.2.1, .int .u16 y.2.2.2.2.2.2.2.2.1, .int .i64 y.2.2.2.2.2.2.2.2.2] t (0, 0)) := by
  simp [putAd, World.setCell, Array.getElem?_modify, h]
theorem putAd_below {B : Nat} {w0 w : World} {g : Nat} (y : Ad) (h : Below B w0 w) (hg : B ≤ g) : Below B w0 (putAd w g y) :=
  (((((((((h.setCell (p := ⟨g, 0, none⟩) hg _).setCell (p := ⟨g, 1, none⟩) hg _).setCell (p := ⟨g, 2, none⟩) hg _).setCell (p := ⟨g, 3, none⟩) hg _).setCell (p := ⟨g, 4, none⟩) hg _).setCell (p := ⟨g, 5, none⟩) hg _).setCell (p := ⟨g, 6, none⟩) hg _).setCell (p := ⟨g, 7, none⟩) hg _).setCell (p := ⟨g, 8, none⟩) hg _).setCell (p := ⟨g, 9, none⟩) hg _
set_option maxRecDepth 100000 in
set_option maxHeartbeats 1600000 in
theorem Worst_any (A : Option Addr) (n c : Nat) (l : List Sc) (long now : Int) (w : World) (hl : Scs w w.heap.size A n l) (hn : n ≤ 1000) :
    Calls Try.prog 15 #[.slice A n c, .int .i64 long, .int .i64 now] w fun e w' => e = .returned (.tuple #[valAd (worstL (l.filter (freshR long now))), .bool (decide (0 < (l.filter (freshR long now)).length))]) ∧ Below w.heap.size w w' := by
  obtain ⟨F, hF⟩ : ∃ F, F = l.filter (freshR long now) := ⟨_, rfl⟩
  have hFl : F.length ≤ 1000 := by rw [hF]; exact Nat.le_trans (List.length_filter_le _ _) (by rw [hl.1]; exact hn)
  obtain ⟨m, hm⟩ : ∃ m, F.length = m := ⟨_, rfl⟩
  rw [hm] at hFl
  have HM := Lib.hid hm
  have HFF := Lib.hid hF
  clear hF
  go_enter Try.func15, Try.ntmps15
  go_wp2_with fail
  refine (Fresh_any A n c l long now _ ((hl.alloc (Nat.le_refl _) _).more (by first | omega | (simp; done) | (simp; omega))) hn).mono ?_
  rw [← HFF.out, HM.out]
  rintro e w1 ⟨A1, c1, rfl, ho1, hb1⟩
  have r1 := ho1.recs
  have hz : w1.heap[w.heap.size]? = some (.cells #[.int .i8 zeroAd.1, .int .u16 zeroAd.2.1, .int .u16 zeroAd.2.2.1, .int .u16 zeroAd.2.2.2.1, .int .u16 zeroAd.2.2.2.2.1, .int .u16 zeroAd.2.2.2.2.2.1, .int .u16 zeroAd.2.2.2.2.2.2.1, .int .u16 zeroAd.2.2.2.2.2.2.2.1, .int .u16 zeroAd.2.2.2.2.2.2.2.2.1, .int .i64 zeroAd.2.2.2.2.2.2.2.2.2] 31 (0, 0)) := (hb1.block w.heap.size (by simp)).trans (heap_alloc_new w _)
  have hbw := (Below.new_ w (.cells #[.int .i8 zeroAd.1, .int .u16 zeroAd.2.1, .int .u16 zeroAd.2.2.1, .int .u16 zeroAd.2.2.2.1, .int .u16 zeroAd.2.2.2.2.1, .int .u16 zeroAd.2.2.2.2.2.1, .int .u16 zeroAd.2.2.2.2.2.2.1, .int .u16 zeroAd.2.2.2.2.2.2.2.1, .int .u16 zeroAd.2.2.2.2.2.2.2.2.1, .int .i64 zeroAd.2.2.2.2.2.2.2.2.2] 31)).trans (hb1.mono (by first | omega | (simp; done) | (simp; omega)))
  have hcc := c1
  clear ho1 hb1
  by_cases h0 : m = 0
  · subst h0
    have hq := worstL_none HM.out
    have HQ := Lib.hid hq
    clear hq hm
    obtain ⟨z0, z1, z2, z3, z4, z5, z6, z7, z8, z9⟩ := ad_cells (x := zeroAd) hz
    obtain ⟨f0, f1, f2, f3, f4, f5, f6, f7, f8, f9⟩ := ad_free hz
    go_wp2_with fail
    obtain ⟨q0, q1, q2, q3, q4, q5, q6, q7, q8, q9⟩ := ad_cells (putAd_at zeroAd hz)
    unfold putAd at q0 q1 q2 q3 q4 q5 q6 q7 q8 q9
    simp only [zeroAd] at q0 q1 q2 q3 q4 q5 q6 q7 q8 q9
    exact bodyPost_ret (v := .tuple #[valAd zeroAd, .bool false]) (by simp [results, Try.results15, go_sem, valAd, zeroAd, q0, q1, q2, q3, q4, q5, q6, q7, q8, q9]) rfl ⟨by rw [← HFF.out, HQ.out, HM.out]; rfl, putAd_below zeroAd hbw (Nat.le_refl _)⟩
  · obtain ⟨b, off, x, rfl, hbb, hx, hc0, hc1, hc2, hc3, hc4, hc5, hc6, hc7, hc8, hc9, hc10⟩ := Scs.cells r1 (i := m - 1) (by omega)
    have hq := worstL_at HM.out hx.out
    have HQ := Lib.hid hq
    have i1 : (1 : Int) ≤ (m : Int) := by omega
    have i2 : (0 : Int) ≤ (m : Int) - 1 := by omega
    have i3 : (m : Int) - 1 < (m : Int) := by omega
    have i5 : ((m : Int) - 1).toNat = m - 1 := by omega
    have i6 : IntKind.i64.wrap ((m : Int) - 1) = (m : Int) - 1 := IntWalk.i64_in _ (by omega)
    have hd : ((m : Int) == 0) = false := by simp; omega
    clear hq hm
    obtain ⟨z0, z1, z2, z3, z4, z5, z6, z7, z8, z9⟩ := ad_cells (x := zeroAd) hz
    obtain ⟨f0, f1, f2, f3, f4, f5, f6, f7, f8, f9⟩ := ad_free hz
    go_wp2_with fail
    obtain ⟨q0, q1, q2, q3, q4, q5, q6, q7, q8, q9⟩ := ad_cells (putAd_at x.1 hz)
    unfold putAd at q0 q1 q2 q3 q4 q5 q6 q7 q8 q9
    exact bodyPost_ret (v := .tuple #[valAd x.1, .bool true]) (by simp [results, Try.results15, go_sem, valAd, q0, q1, q2, q3, q4, q5, q6, q7, q8, q9]) rfl ⟨by rw [← HFF.out, HQ.out, HM.out, decide_eq_true (show 0 < m by omega)], putAd_below x.1 hbw (Nat.le_refl _)⟩
end Go.Proofs.Ytgpijomnnnjgkaa
