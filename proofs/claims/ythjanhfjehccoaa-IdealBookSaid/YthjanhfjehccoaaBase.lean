/-
  Plain words for memory, made for the statements over 'switchboard': a slice value that reads as a list of cells. Nothing here names a function of the program. Conditions: none.
-/
import Derived.WalkKit
import Derived.WalkSpells
import Derived.WalkLawsBesides
import Derived.ProofKit
import Derived.Lib.Hide
import Derived.Deep.QuietTactic
import Derived.BigQuiet
import Derived.Deep.DeepCutAuto
import Derived.Deep.LoopGhost
namespace Go.Proofs.Ythjanhfjehccoaa
set_option linter.unusedVariables false
set_option linter.unusedSimpArgs false
open Go.RowKit

theorem addr_add_block (a : Addr) (n : Nat) : (a.add n).block = a.block := by unfold Addr.add; split <;> rfl
theorem addr_add_add (a : Addr) (i j : Nat) : (a.add i).add j = a.add (i + j) := by
  unfold Addr.add
  by_cases h1 : i = 0 <;> by_cases h2 : j = 0 <;> simp [h1, h2, Nat.add_assoc]
theorem addr_add_zero (a : Addr) : a.add 0 = a := rfl

/-- The slice whose address is A, of n elements of k cells each, holds the cells xs, in blocks below B. -/
def Sl (w : World) (B k : Nat) (A : Option Addr) (n : Nat) (xs : List Value) : Prop :=
  xs.length = n * k ∧ (0 < n → 0 < k → ∃ b off, A = some ⟨b, off, none⟩ ∧ b < B ∧ ∀ j u, xs[j]? = some u → w.cell? ⟨b, off + j, none⟩ = some u)

section
variable {w w' : World} {B B' k n : Nat} {A : Option Addr} {xs : List Value}

theorem Sl.nil_ (w : World) (B k : Nat) (A : Option Addr) : Sl w B k A 0 [] := ⟨by simp, fun h => absurd h (by omega)⟩

theorem Sl.keep (h : Sl w B k A n xs) (hk : ∀ b off, b < B → w'.cell? ⟨b, off, none⟩ = w.cell? ⟨b, off, none⟩) : Sl w' B k A n xs :=
  ⟨h.1, fun h0 h1 => by
    obtain ⟨b, off, e, hb, hc⟩ := h.2 h0 h1
    exact ⟨b, off, e, hb, fun j u hu => (hk _ _ hb).trans (hc j u hu)⟩⟩

theorem Sl.more (h : Sl w B k A n xs) (hB : B ≤ B') : Sl w B' k A n xs :=
  ⟨h.1, fun h0 h1 => by
    obtain ⟨b, off, e, hb, hc⟩ := h.2 h0 h1
    exact ⟨b, off, e, Nat.lt_of_lt_of_le hb hB, hc⟩⟩

theorem Sl.below (h : Sl w B k A n xs) (hb : Below B w w') : Sl w' B k A n xs := h.keep fun b off hlt => hb.cell (p := ⟨b, off, none⟩) hlt
theorem Sl.below' (h : Sl w B k A n xs) (hb : Below B' w w') (hB : B ≤ B') : Sl w' B k A n xs := h.keep fun b off hlt => hb.cell (p := ⟨b, off, none⟩) (Nat.lt_of_lt_of_le hlt hB)
theorem Sl.drew (h : Sl w B k A n xs) : Sl w.drew B k A n xs := h
theorem Sl.drewN (h : Sl w B k A n xs) (m : Nat) : Sl (w.drewN m) B k A n xs := h
theorem Sl.alloc (h : Sl w B k A n xs) (hB : B ≤ w.heap.size) (o : Obj) : Sl (w.alloc o) B k A n xs :=
  h.keep fun b off hlt => World.cell?_alloc_lt w o ⟨b, off, none⟩ (Nat.lt_of_lt_of_le hlt hB)

/-- One element of one cell. -/
theorem Sl.at1 (h : Sl w B 1 A n xs) {i : Nat} (hi : i < n) : ∃ b off u, A = some ⟨b, off, none⟩ ∧ b < B ∧ xs[i]? = some u ∧ w.cell? ⟨b, off + i, none⟩ = some u := by
  obtain ⟨b, off, e, hb, hc⟩ := h.2 (by omega) (by omega)
  have hl : i < xs.length := by have := h.1; omega
  exact ⟨b, off, xs[i], e, hb, List.getElem?_eq_getElem hl, hc i _ (List.getElem?_eq_getElem hl)⟩
end

/-- A slice of ints. -/
def Ints (w : World) (B : Nat) (A : Option Addr) (n : Nat) (l : List Int) : Prop := Sl w B 1 A n (l.map (Value.int .i64))

section
variable {w w' : World} {B B' n : Nat} {A : Option Addr} {l : List Int}
theorem Ints.len (h : Ints w B A n l) : l.length = n := by have := h.1; simpa using this
theorem Ints.nil_ (w : World) (B : Nat) (A : Option Addr) : Ints w B A 0 [] := Sl.nil_ w B 1 A
theorem Ints.more (h : Ints w B A n l) (hB : B ≤ B') : Ints w B' A n l := Sl.more h hB
theorem Ints.below (h : Ints w B A n l) (hb : Below B w w') : Ints w' B A n l := Sl.below h hb
theorem Ints.below' (h : Ints w B A n l) (hb : Below B' w w') (hB : B ≤ B') : Ints w' B A n l := Sl.below' h hb hB
theorem Ints.drew (h : Ints w B A n l) : Ints w.drew B A n l := h
theorem Ints.drewN (h : Ints w B A n l) (m : Nat) : Ints (w.drewN m) B A n l := h
theorem Ints.alloc (h : Ints w B A n l) (hB : B ≤ w.heap.size) (o : Obj) : Ints (w.alloc o) B A n l := Sl.alloc h hB o
theorem Ints.at_ (h : Ints w B A n l) {i : Nat} (hi : i < n) : ∃ b off x, A = some ⟨b, off, none⟩ ∧ b < B ∧ Hid (l[i]? = some x) ∧ w.cell? ⟨b, off + i, none⟩ = some (.int .i64 x) := by
  obtain ⟨b, off, u, e, hb, hx, hc⟩ := Sl.at1 h hi
  have hl : i < l.length := by rw [h.len]; exact hi
  rw [List.getElem?_map, List.getElem?_eq_getElem hl] at hx
  simp at hx
  exact ⟨b, off, l[i], e, hb, List.getElem?_eq_getElem hl, by rw [hc, ← hx]⟩
theorem Ints.cell {b off : Nat} (h : Ints w B (some ⟨b, off, none⟩) n l) {i : Nat} {x : Int} (hx : l[i]? = some x) : w.cell? ⟨b, off + i, none⟩ = some (.int .i64 x) := by
  have hi := (List.getElem?_eq_some_iff.1 hx).1
  have hn := h.len
  obtain ⟨b', off', e, _, hc⟩ := h.2 (by omega) (by omega)
  injection e with e
  injection e with e1 e2
  subst e1 e2
  exact hc i _ (by rw [List.getElem?_map, hx]; rfl)
theorem take_succ_of {α : Type} {l : List α} {i : Nat} {x : α} (h : l[i]? = some x) : l.take (i + 1) = l.take i ++ [x] := by
  rw [List.take_add_one, h]; rfl
end

theorem Below.new_ (w : World) (o : Obj) : Below w.heap.size w (w.alloc o) := (Below.refl _ _).alloc (Nat.le_refl _) o

/-- A new block of ints, read as a slice. -/
theorem Ints.new (w : World) (l : List Int) (e : TypeId) : Ints (w.alloc (.cells (l.map (Value.int .i64)).toArray e)) (w.heap.size + 1) (some ⟨w.heap.size, 0, none⟩) l.length l := by
  refine ⟨by simp, fun _ _ => ⟨_, 0, rfl, Nat.lt_succ_self _, fun j u hu => ?_⟩⟩
  rw [cell_of_row _ w.heap.size (0 + j) _ e (0, 0) (heap_alloc_new w _)]
  simpa using hu

theorem Ints.new1 (w : World) (a : Int) (e : TypeId) : Ints (w.alloc (.cells #[.int .i64 a] e)) (w.heap.size + 1) (some ⟨w.heap.size, 0, none⟩) 1 [a] := Ints.new w [a] e
theorem Ints.new2 (w : World) (a b : Int) (e : TypeId) : Ints (w.alloc (.cells #[.int .i64 a, .int .i64 b] e)) (w.heap.size + 1) (some ⟨w.heap.size, 0, none⟩) 2 [a, b] := Ints.new w [a, b] e
theorem Ints.new3 (w : World) (a b c : Int) (e : TypeId) : Ints (w.alloc (.cells #[.int .i64 a, .int .i64 b, .int .i64 c] e)) (w.heap.size + 1) (some ⟨w.heap.size, 0, none⟩) 3 [a, b, c] := Ints.new w [a, b, c] e
theorem Ints.at1_ (w : World) (g : Nat) (a : Int) (e : TypeId) (h : g = w.heap.size) : Ints (w.alloc (.cells #[.int .i64 a] e)) (g + 1) (some ⟨g, 0, none⟩) 1 [a] := by subst h; exact Ints.new1 w a e
theorem Ints.at2_ (w : World) (g : Nat) (a b : Int) (e : TypeId) (h : g = w.heap.size) : Ints (w.alloc (.cells #[.int .i64 a, .int .i64 b] e)) (g + 1) (some ⟨g, 0, none⟩) 2 [a, b] := by subst h; exact Ints.new2 w a b e
theorem Ints.at3_ (w : World) (g : Nat) (a b c : Int) (e : TypeId) (h : g = w.heap.size) : Ints (w.alloc (.cells #[.int .i64 a, .int .i64 b, .int .i64 c] e)) (g + 1) (some ⟨g, 0, none⟩) 3 [a, b, c] := by subst h; exact Ints.new3 w a b c e

theorem quiet_eq {P : Program} {f : FuncId} {args : Array Value} {w : World} {n : Nat} {v : Value} (h : Calls P f args (w.drewN n) fun e w' => e = .returned v ∧ w.drewN n = w') :
    Calls P f args (w.drewN n) fun e w' => e = .returned v ∧ ∃ m, w' = w.drewN m := h.mono fun _ _ ⟨he, hm⟩ => ⟨he, n, hm.symm⟩

theorem ret_int {k : IntKind} {a b : Int} (h : a = b) : Ending.returned (.int k a) = .returned (.int k b) := by rw [h]
theorem ret_bool {a b : Bool} (h : a = b) : Ending.returned (.bool a) = .returned (.bool b) := by rw [h]

end Go.Proofs.Ythjanhfjehccoaa
