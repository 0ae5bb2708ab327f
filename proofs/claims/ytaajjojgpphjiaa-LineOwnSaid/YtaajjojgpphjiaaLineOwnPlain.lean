/-
  Rows of ints that a call may spoil: what stays of them and of all else when one of their cells is written. Conditions: none.
-/
import Derived.Test.YtaajjojgpphjiaaLineOrderWalk
import Derived.RegionTactic
namespace Go.Proofs.Ytaajjojgpphjiaa
open Go.RowKit

/-- The row lies in a block from lo on, ahead of hi, and has n ints. -/
def RowOK (w : World) (lo hi : Nat) (A : Option Addr) (n : Nat) : Prop :=
  0 < n → ∃ b cur e, A = some ⟨b, 0, none⟩ ∧ lo ≤ b ∧ b < hi ∧ w.heap[b]? = some (.cells cur e (0, 0)) ∧ ∀ j, j < n → ∃ x, cur[j]? = some (.int .i64 x)

theorem RowOK.of_own {w : World} {base lo hi : Nat} {e : TypeId} {A : Option Addr} {n c : Nat} {l : List Int} (h : OwI w base e A n c l) (h1 : lo ≤ base) (h2 : w.heap.size ≤ hi) : RowOK w lo hi A n := by
  intro h0
  rcases h.2.2.2 with hc | ⟨g, cur, rfl, hb, hh, hsz, htk⟩
  · have := h.2.1; omega
  · refine ⟨g, cur, e, rfl, by omega, by have := (Array.getElem?_eq_some_iff.1 hh).1; omega, hh, fun j hj => ?_⟩
    have hl := h.len
    refine ⟨l[j]'(by omega), ?_⟩
    have : (cur.toList.take (n * 1))[j]? = some (.int .i64 (l[j]'(by omega))) := by rw [htk, List.getElem?_map, List.getElem?_eq_getElem (by omega)]; rfl
    rw [List.getElem?_take, if_pos (by omega)] at this
    simpa using this
theorem RowOK.below {w w' : World} {lo hi B : Nat} {A : Option Addr} {n : Nat} (h : RowOK w lo hi A n) (hb : Below B w w') (hB : hi ≤ B) : RowOK w' lo hi A n := by
  intro h0
  obtain ⟨b, cur, e, h1, h2, h3, h4, h5⟩ := h h0
  exact ⟨b, cur, e, h1, h2, h3, by rw [hb.block b (by omega)]; exact h4, h5⟩
theorem RowOK.more {w : World} {lo hi hi' : Nat} {A : Option Addr} {n : Nat} (h : RowOK w lo hi A n) (hB : hi ≤ hi') : RowOK w lo hi' A n := by
  intro h0
  obtain ⟨b, cur, e, h1, h2, h3, h4⟩ := h h0
  exact ⟨b, cur, e, h1, h2, by omega, h4⟩
theorem RowOK.set {w : World} {lo hi : Nat} {A : Option Addr} {n : Nat} (h : RowOK w lo hi A n) (g i : Nat) (z : Int) : RowOK (w.setCell ⟨g, i, none⟩ (.int .i64 z)) lo hi A n := by
  intro h0
  obtain ⟨b, cur, e, h1, h2, h3, h4, h5⟩ := h h0
  by_cases hg : g = b
  · subst hg
    refine ⟨g, cur.setIfInBounds i (.int .i64 z), e, h1, h2, h3, by simp [World.setCell, Array.getElem?_modify, h4], fun j hj => ?_⟩
    obtain ⟨x, hx⟩ := h5 j hj
    have hjs := (Array.getElem?_eq_some_iff.1 hx).1
    by_cases hij : i = j
    · subst hij; exact ⟨z, by simp [hjs]⟩
    · exact ⟨x, by rw [Array.getElem?_setIfInBounds_ne hij]; exact hx⟩
  · exact ⟨b, cur, e, h1, h2, h3, by rw [Below.heap_setCell w _ _ b (fun e => hg (by simpa using e.symm))]; exact h4, h5⟩
theorem RowOK.drewN {w : World} {lo hi : Nat} {A : Option Addr} {n : Nat} (h : RowOK w lo hi A n) (m : Nat) : RowOK (w.drewN m) lo hi A n := h
theorem RowOK.cell {w : World} {lo hi : Nat} {A : Option Addr} {n j : Nat} (h : RowOK w lo hi A n) (hj : j < n) : ∃ b x, A = some ⟨b, 0, none⟩ ∧ lo ≤ b ∧ b < hi ∧ w.cell? ⟨b, j, none⟩ = some (.int .i64 x) ∧ w.frozen? ⟨b, j, none⟩ = false := by
  obtain ⟨b, cur, e, h1, h2, h3, h4, h5⟩ := h (by omega)
  obtain ⟨x, hx⟩ := h5 j hj
  exact ⟨b, x, h1, h2, h3, by rw [cell_of_row w b j cur e (0, 0) h4]; exact hx, by simp [World.frozen?, h4]⟩

/-- What holds while rows are spoilt: each is there, what is ahead of lo is as it was, the row of rows is there. -/
structure Spoil (w1 : World) (lo hi : Nat) (rows : List Row) (wr : World) : Prop where
  all : ∀ r ∈ rows, RowOK wr lo hi r.1 r.2.1
  old : Below lo w1 wr
  row : wr.heap[hi]? = some (.cells (rows.map rowVal).toArray 22 (0, 0))
theorem Spoil.set {w1 wr : World} {lo hi : Nat} {rows : List Row} (h : Spoil w1 lo hi rows wr) {g i : Nat} (z : Int) (h1 : lo ≤ g) (h2 : g < hi) : Spoil w1 lo hi rows (wr.setCell ⟨g, i, none⟩ (.int .i64 z)) :=
  ⟨fun r hr => (h.all r hr).set g i z, h.old.setCell (p := ⟨g, i, none⟩) h1 _, by rw [Below.heap_setCell wr _ _ hi (by simp; omega)]; exact h.row⟩
theorem Spoil.drewN {w1 wr : World} {lo hi : Nat} {rows : List Row} (h : Spoil w1 lo hi rows wr) (m : Nat) : Spoil w1 lo hi rows (wr.drewN m) := ⟨fun r hr => (h.all r hr).drewN m, below_drewN h.old m, h.row⟩
theorem Spoil.cell {w1 wr : World} {lo hi : Nat} {rows : List Row} (h : Spoil w1 lo hi rows wr) {i : Nat} {r : Row} (hr : rows[i]? = some r) : wr.cell? ⟨hi, i, none⟩ = some (.slice r.1 r.2.1 r.2.2) := by
  rw [cell_of_row wr hi i _ _ (0, 0) h.row]
  simp [hr, rowVal]
theorem spoil_drewN (w1 wr : World) (lo hi : Nat) (rows : List Row) : Spoil w1 lo hi rows wr → Spoil w1 lo hi rows wr.drew := fun h => h.drewN 1
end Go.Proofs.Ytaajjojgpphjiaa
