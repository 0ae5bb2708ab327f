/-
  Slices of structs: a slice value that reads as a list of records, each written out in a fixed number of cells. Conditions: none.
-/
import Derived.Test.YthjanhfjehccoaaOwn
namespace Go.Proofs.Ythjanhfjehccoaa
set_option linter.unusedVariables false
set_option linter.unusedSimpArgs false
open Go.RowKit

theorem flatMap_at {α β : Type} {enc : α → List β} {k : Nat} (hk : ∀ x, (enc x).length = k) : ∀ (xs : List α) (i j : Nat) (x : α) (u : β), xs[i]? = some x → (enc x)[j]? = some u → (xs.flatMap enc)[i * k + j]? = some u
  | [], i, j, x, u, hx, _ => by simp at hx
  | y :: ys, 0, j, x, u, hx, hu => by
    simp at hx
    subst hx
    have hj : j < (enc y).length := (List.getElem?_eq_some_iff.1 hu).1
    rw [List.flatMap_cons, Nat.zero_mul, Nat.zero_add, List.getElem?_append_left hj]
    exact hu
  | y :: ys, i + 1, j, x, u, hx, hu => by
    have hx' : ys[i]? = some x := by simpa using hx
    have e : (i + 1) * k + j = (enc y).length + (i * k + j) := by rw [hk y, Nat.add_mul]; omega
    rw [List.flatMap_cons, e, List.getElem?_append_right (by omega), Nat.add_sub_cancel_left]
    exact flatMap_at hk ys i j x u hx' hu
theorem flatMap_len {α β : Type} {enc : α → List β} {k : Nat} (hk : ∀ x, (enc x).length = k) : ∀ (xs : List α), (xs.flatMap enc).length = xs.length * k
  | [] => by simp
  | y :: ys => by rw [List.flatMap_cons, List.length_append, hk y, flatMap_len hk ys, List.length_cons, Nat.add_mul]; omega

/-- The slice reads as the list xs of records. -/
def Recs {α : Type} (enc : α → List Value) (k : Nat) (w : World) (B : Nat) (A : Option Addr) (n : Nat) (xs : List α) : Prop := xs.length = n ∧ Sl w B k A n (xs.flatMap enc)

section
variable {α : Type} {enc : α → List Value} {k : Nat} {w w' : World} {B B' n : Nat} {A : Option Addr} {xs : List α}
theorem Recs.len (h : Recs enc k w B A n xs) : xs.length = n := h.1
theorem Recs.sl (h : Recs enc k w B A n xs) : Sl w B k A n (xs.flatMap enc) := h.2
theorem Recs.nil_ (w : World) (B : Nat) (A : Option Addr) : Recs enc k w B A 0 [] := ⟨rfl, Sl.nil_ w B k A⟩
theorem Recs.more (h : Recs enc k w B A n xs) (hB : B ≤ B') : Recs enc k w B' A n xs := ⟨h.1, h.2.more hB⟩
theorem Recs.below (h : Recs enc k w B A n xs) (hb : Below B w w') : Recs enc k w' B A n xs := ⟨h.1, h.2.below hb⟩
theorem Recs.below' (h : Recs enc k w B A n xs) (hb : Below B' w w') (hB : B ≤ B') : Recs enc k w' B A n xs := ⟨h.1, h.2.below' hb hB⟩
theorem Recs.drew (h : Recs enc k w B A n xs) : Recs enc k w.drew B A n xs := h
theorem Recs.drewN (h : Recs enc k w B A n xs) (m : Nat) : Recs enc k (w.drewN m) B A n xs := h
theorem Recs.alloc (h : Recs enc k w B A n xs) (hB : B ≤ w.heap.size) (o : Obj) : Recs enc k (w.alloc o) B A n xs := ⟨h.1, h.2.alloc hB o⟩
theorem Recs.at_ (hk : ∀ x, (enc x).length = k) (hk0 : 0 < k) (h : Recs enc k w B A n xs) {i : Nat} (hi : i < n) :
    ∃ b off x, A = some ⟨b, off, none⟩ ∧ b < B ∧ Hid (xs[i]? = some x) ∧ ∀ j u, (enc x)[j]? = some u → w.cell? ⟨b, off + (i * k + j), none⟩ = some u := by
  have hl : i < xs.length := by rw [h.1]; exact hi
  obtain ⟨b, off, e, hb, hc⟩ := h.2.2 (by omega) hk0
  have hx : xs[i]? = some xs[i] := List.getElem?_eq_getElem hl
  exact ⟨b, off, xs[i], e, hb, hx, fun j u hu => hc _ u (flatMap_at hk xs i j _ u hx hu)⟩
end

/-- A new block of records, read as a slice. -/
theorem Recs.new_at {α : Type} {enc : α → List Value} {k : Nat} (hk : ∀ x, (enc x).length = k) (w : World) (g : Nat) (hg : g = w.heap.size) (xs : List α) (n : Nat) (hn : xs.length = n) (cells : Array Value) (hc : cells.toList = xs.flatMap enc) (e : TypeId) :
    Recs enc k (w.alloc (.cells cells e)) (g + 1) (some ⟨g, 0, none⟩) n xs := by
  subst hg hn
  refine ⟨rfl, by rw [flatMap_len hk], fun _ _ => ⟨_, 0, rfl, Nat.lt_succ_self _, fun j u hu => ?_⟩⟩
  rw [cell_of_row _ w.heap.size (0 + j) _ e (0, 0) (heap_alloc_new w _), ← hc] at *
  simpa using hu

/-- A slice of records of the call's own. -/
def OwR {α : Type} (enc : α → List Value) (k : Nat) (w : World) (base : Nat) (e : TypeId) (A : Option Addr) (n c : Nat) (xs : List α) : Prop := xs.length = n ∧ Ow w base e k A n c (xs.flatMap enc)
section
variable {α : Type} {enc : α → List Value} {k : Nat} {w w' : World} {base n c : Nat} {e : TypeId} {A : Option Addr} {xs : List α}
theorem OwR.nil_ (w : World) (base : Nat) (e : TypeId) (A : Option Addr) : OwR enc k w base e A 0 0 [] := ⟨rfl, Ow.nil_ w base e k A⟩
theorem OwR.len (h : OwR enc k w base e A n c xs) : xs.length = n := h.1
theorem OwR.recs (h : OwR enc k w base e A n c xs) : Recs enc k w w.heap.size A n xs := ⟨h.1, h.2.sl⟩
theorem OwR.alloc (h : OwR enc k w base e A n c xs) (o : Obj) : OwR enc k (w.alloc o) base e A n c xs := ⟨h.1, h.2.alloc o⟩
theorem OwR.drew (h : OwR enc k w base e A n c xs) : OwR enc k w.drew base e A n c xs := h
theorem OwR.drewN (h : OwR enc k w base e A n c xs) (m : Nat) : OwR enc k (w.drewN m) base e A n c xs := h
theorem OwR.below (h : OwR enc k w base e A n c xs) (hb : Below w.heap.size w w') : OwR enc k w' base e A n c xs := ⟨h.1, h.2.below hb⟩
end

end Go.Proofs.Ythjanhfjehccoaa
