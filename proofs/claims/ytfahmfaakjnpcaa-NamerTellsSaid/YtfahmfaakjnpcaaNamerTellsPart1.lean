/-
  Plain words for memory, made for the statements over 'switchboard': a slice value that reads as a list of cells. Nothing here names a function of the program. Conditions: none.
  A slice that the call itself made, or an empty one without room: what it holds, where it lies, and what append makes of it. Conditions: none; bounds on lengths are premises.
  Slices of structs: a slice value that reads as a list of records, each written out in a fixed number of cells. Conditions: none.
  append inside a statement whose order is open: one step of it, for a slice of the call's own. Conditions: bounds on lengths are premises.
  What the functions of package 'age' (layer 3) compute, each as one contract over the translated program: for every argument, in every memory. Conditions: a slice argument reads as a list of ints.
  Names that are kept, as plain lists: strings in order, where a name stands, what is got, put, fresh, may be. Nothing here names a function of the program. Conditions: none.
-/
import Derived.WalkKit
import Derived.WalkSpells
import Derived.WalkLawsBesides
import Derived.ProofKit
import Derived.Lib.Hide
import Derived.Deep.QuietTactic
import Derived.BigQuiet
import Derived.Deep.DeepCutAuto
import Derived.Deep.LoopGhost
import Derived.Maps.AppendAt
import Derived.Deep.RegionHeld3
import Derived.Deep.RegionLaw
import Derived.Test.YtfahmfaakjnpcaaRows
import Derived.Laws.StructEq
namespace Go.Proofs.Ytfahmfaakjnpcaa
set_option linter.unusedVariables false
set_option linter.unusedSimpArgs false
open Go.RowKit

theorem addr_add_block (a : Addr) (n : Nat) : (a.add n).block = a.block := by unfold Addr.add; split <;> rfl
theorem addr_add_add (a : Addr) (i j : Nat) : (a.add i).add j = a.add (i + j) := by
  unfold Addr.add
  by_cases h1 : i = 0 <;> by_cases h2 : j = 0 <;> simp [h1, h2, Nat.add_assoc]
theorem addr_add_zero (a : Addr) : a.add 0 = a := rfl

/-- The slice whose address is A, of n elements of k cells each, holds the cells xs, in blocks below B. -/
def Sl (w : World) (B k : Nat) (A : Option Addr) (n : Nat) (xs : List Value) : Prop :=
  xs.length = n * k ∧ (0 < n → 0 < k → ∃ b off, A = some ⟨b, off, none⟩ ∧ b < B ∧ ∀ j u, xs[j]? = some u → w.cell? ⟨b, off + j, none⟩ = some u)

section
variable {w w' : World} {B B' k n : Nat} {A : Option Addr} {xs : List Value}

theorem Sl.nil_ (w : World) (B k : Nat) (A : Option Addr) : Sl w B k A 0 [] := ⟨by simp, fun h => absurd h (by omega)⟩

theorem Sl.keep (h : Sl w B k A n xs) (hk : ∀ b off, b < B → w'.cell? ⟨b, off, none⟩ = w.cell? ⟨b, off, none⟩) : Sl w' B k A n xs :=
  ⟨h.1, fun h0 h1 => by
    obtain ⟨b, off, e, hb, hc⟩ := h.2 h0 h1
    exact ⟨b, off, e, hb, fun j u hu => (hk _ _ hb).trans (hc j u hu)⟩⟩

theorem Sl.more (h : Sl w B k A n xs) (hB : B ≤ B') : Sl w B' k A n xs :=
  ⟨h.1, fun h0 h1 => by
    obtain ⟨b, off, e, hb, hc⟩ := h.2 h0 h1
    exact ⟨b, off, e, Nat.lt_of_lt_of_le hb hB, hc⟩⟩

theorem Sl.below (h : Sl w B k A n xs) (hb : Below B w w') : Sl w' B k A n xs := h.keep fun b off hlt => hb.cell (p := ⟨b, off, none⟩) hlt
theorem Sl.below' (h : Sl w B k A n xs) (hb : Below B' w w') (hB : B ≤ B') : Sl w' B k A n xs := h.keep fun b off hlt => hb.cell (p := ⟨b, off, none⟩) (Nat.lt_of_lt_of_le hlt hB)
theorem Sl.drew (h : Sl w B k A n xs) : Sl w.drew B k A n xs := h
theorem Sl.drewN (h : Sl w B k A n xs) (m : Nat) : Sl (w.drewN m) B k A n xs := h
theorem Sl.alloc (h : Sl w B k A n xs) (hB : B ≤ w.heap.size) (o : Obj) : Sl (w.alloc o) B k A n xs :=
  h.keep fun b off hlt => World.cell?_alloc_lt w o ⟨b, off, none⟩ (Nat.lt_of_lt_of_le hlt hB)

/-- One element of one cell. -/
theorem Sl.at1 (h : Sl w B 1 A n xs) {i : Nat} (hi : i < n) : ∃ b off u, A = some ⟨b, off, none⟩ ∧ b < B ∧ xs[i]? = some u ∧ w.cell? ⟨b, off + i, none⟩ = some u := by
  obtain ⟨b, off, e, hb, hc⟩ := h.2 (by omega) (by omega)
  have hl : i < xs.length := by have := h.1; omega
  exact ⟨b, off, xs[i], e, hb, List.getElem?_eq_getElem hl, hc i _ (List.getElem?_eq_getElem hl)⟩
end

/-- A slice of ints. -/
def Ints (w : World) (B : Nat) (A : Option Addr) (n : Nat) (l : List Int) : Prop := Sl w B 1 A n (l.map (Value.int .i64))

section
variable {w w' : World} {B B' n : Nat} {A : Option Addr} {l : List Int}
theorem Ints.len (h : Ints w B A n l) : l.length = n := by have := h.1; simpa using this
theorem Ints.nil_ (w : World) (B : Nat) (A : Option Addr) : Ints w B A 0 [] := Sl.nil_ w B 1 A
theorem Ints.more (h : Ints w B A n l) (hB : B ≤ B') : Ints w B' A n l := Sl.more h hB
theorem Ints.below (h : Ints w B A n l) (hb : Below B w w') : Ints w' B A n l := Sl.below h hb
theorem Ints.below' (h : Ints w B A n l) (hb : Below B' w w') (hB : B ≤ B') : Ints w' B A n l := Sl.below' h hb hB
theorem Ints.drew (h : Ints w B A n l) : Ints w.drew B A n l := h
theorem Ints.drewN (h : Ints w B A n l) (m : Nat) : Ints (w.drewN m) B A n l := h
theorem Ints.alloc (h : Ints w B A n l) (hB : B ≤ w.heap.size) (o : Obj) : Ints (w.alloc o) B A n l := Sl.alloc h hB o
theorem Ints.at_ (h : Ints w B A n l) {i : Nat} (hi : i < n) : ∃ b off x, A = some ⟨b, off, none⟩ ∧ b < B ∧ Hid (l[i]? = some x) ∧ w.cell? ⟨b, off + i, none⟩ = some (.int .i64 x) := by
  obtain ⟨b, off, u, e, hb, hx, hc⟩ := Sl.at1 h hi
  have hl : i < l.length := by rw [h.len]; exact hi
  rw [List.getElem?_map, List.getElem?_eq_getElem hl] at hx
  simp at hx
  exact ⟨b, off, l[i], e, hb, List.getElem?_eq_getElem hl, by rw [hc, ← hx]⟩
theorem Ints.cell {b off : Nat} (h : Ints w B (some ⟨b, off, none⟩) n l) {i : Nat} {x : Int} (hx : l[i]? = some x) : w.cell? ⟨b, off + i, none⟩ = some (.int .i64 x) := by
  have hi := (List.getElem?_eq_some_iff.1 hx).1
  have hn := h.len
  obtain ⟨b', off', e, _, hc⟩ := h.2 (by omega) (by omega)
  injection e with e
  injection e with e1 e2
  subst e1 e2
  exact hc i _ (by rw [List.getElem?_map, hx]; rfl)
theorem take_succ_of {α : Type} {l : List α} {i : Nat} {x : α} (h : l[i]? = some x) : l.take (i + 1) = l.take i ++ [x] := by
  rw [List.take_add_one, h]; rfl
end

theorem Below.new_ (w : World) (o : Obj) : Below w.heap.size w (w.alloc o) := (Below.refl _ _).alloc (Nat.le_refl _) o

/-- A new block of ints, read as a slice. -/
theorem Ints.new (w : World) (l : List Int) (e : TypeId) : Ints (w.alloc (.cells (l.map (Value.int .i64)).toArray e)) (w.heap.size + 1) (some ⟨w.heap.size, 0, none⟩) l.length l := by
  refine ⟨by simp, fun _ _ => ⟨_, 0, rfl, Nat.lt_succ_self _, fun j u hu => ?_⟩⟩
  rw [cell_of_row _ w.heap.size (0 + j) _ e (0, 0) (heap_alloc_new w _)]
  simpa using hu

theorem Ints.new1 (w : World) (a : Int) (e : TypeId) : Ints (w.alloc (.cells #[.int .i64 a] e)) (w.heap.size + 1) (some ⟨w.heap.size, 0, none⟩) 1 [a] := Ints.new w [a] e
theorem Ints.new2 (w : World) (a b : Int) (e : TypeId) : Ints (w.alloc (.cells #[.int .i64 a, .int .i64 b] e)) (w.heap.size + 1) (some ⟨w.heap.size, 0, none⟩) 2 [a, b] := Ints.new w [a, b] e
theorem Ints.new3 (w : World) (a b c : Int) (e : TypeId) : Ints (w.alloc (.cells #[.int .i64 a, .int .i64 b, .int .i64 c] e)) (w.heap.size + 1) (some ⟨w.heap.size, 0, none⟩) 3 [a, b, c] := Ints.new w [a, b, c] e
theorem Ints.at1_ (w : World) (g : Nat) (a : Int) (e : TypeId) (h : g = w.heap.size) : Ints (w.alloc (.cells #[.int .i64 a] e)) (g + 1) (some ⟨g, 0, none⟩) 1 [a] := by subst h; exact Ints.new1 w a e
theorem Ints.at2_ (w : World) (g : Nat) (a b : Int) (e : TypeId) (h : g = w.heap.size) : Ints (w.alloc (.cells #[.int .i64 a, .int .i64 b] e)) (g + 1) (some ⟨g, 0, none⟩) 2 [a, b] := by subst h; exact Ints.new2 w a b e
theorem Ints.at3_ (w : World) (g : Nat) (a b c : Int) (e : TypeId) (h : g = w.heap.size) : Ints (w.alloc (.cells #[.int .i64 a, .int .i64 b, .int .i64 c] e)) (g + 1) (some ⟨g, 0, none⟩) 3 [a, b, c] := by subst h; exact Ints.new3 w a b c e

theorem quiet_eq {P : Program} {f : FuncId} {args : Array Value} {w : World} {n : Nat} {v : Value} (h : Calls P f args (w.drewN n) fun e w' => e = .returned v ∧ w.drewN n = w') :
    Calls P f args (w.drewN n) fun e w' => e = .returned v ∧ ∃ m, w' = w.drewN m := h.mono fun _ _ ⟨he, hm⟩ => ⟨he, n, hm.symm⟩

theorem ret_int {k : IntKind} {a b : Int} (h : a = b) : Ending.returned (.int k a) = .returned (.int k b) := by rw [h]
theorem ret_bool {a b : Bool} (h : a = b) : Ending.returned (.bool a) = .returned (.bool b) := by rw [h]

end Go.Proofs.Ytfahmfaakjnpcaa
namespace Go.Proofs.Ytfahmfaakjnpcaa
set_option linter.unusedVariables false
set_option linter.unusedSimpArgs false
open Go.RowKit

/-- The slice (A, n, c) of elements of type e, of k cells each, holds xs in a row among blocks from base on; or it has no room at all. -/
def Ow (w : World) (base : Nat) (e : TypeId) (k : Nat) (A : Option Addr) (n c : Nat) (xs : List Value) : Prop :=
  xs.length = n * k ∧ n ≤ c ∧ c ≤ maxLen ∧
  (c = 0 ∨ ∃ g cur, A = some ⟨g, 0, none⟩ ∧ base ≤ g ∧ w.heap[g]? = some (.cells cur e (0, 0)) ∧ cur.size = c * k ∧ cur.toList.take (n * k) = xs)

/-- The block in which it may write. -/
def rowOf (A : Option Addr) (c : Nat) : Option Nat := if c = 0 then none else A.map (·.block)

section
variable {w w' : World} {base B : Nat} {e : TypeId} {k n c : Nat} {A : Option Addr} {xs : List Value}

theorem Ow.nil_ (w : World) (base : Nat) (e : TypeId) (k : Nat) (A : Option Addr) : Ow w base e k A 0 0 [] := ⟨by simp, by omega, by unfold maxLen; omega, .inl rfl⟩

theorem Ow.row (h : Ow w base e k A n c xs) : ∀ g, rowOf A c = some g → base ≤ g ∧ g < w.heap.size := by
  intro g hg
  rcases h.2.2.2 with h0 | ⟨g', cur, rfl, hb, hh, _⟩
  · simp [rowOf, h0] at hg
  · unfold rowOf at hg
    split at hg
    · cases hg
    · simp at hg
      subst hg
      exact ⟨hb, (Array.getElem?_eq_some_iff.1 hh).1⟩

theorem Ow.kept (h : Ow w base e k A n c xs) {row : Option Nat} (hg : w.grownBy w' row) (hne : rowOf A c = none ∨ rowOf A c ≠ row) : Ow w' base e k A n c xs := by
  refine ⟨h.1, h.2.1, h.2.2.1, ?_⟩
  rcases h.2.2.2 with h0 | ⟨g, cur, rfl, hb, hh, rest⟩
  · exact .inl h0
  · by_cases hc : c = 0
    · exact .inl hc
    · refine .inr ⟨g, cur, rfl, hb, ?_, rest⟩
      rw [hg.block g (Array.getElem?_eq_some_iff.1 hh).1 (by simpa [rowOf, hc] using hne)]
      exact hh

theorem Ow.block (h : Ow w base e k A n c xs) (hb : ∀ g, rowOf A c = some g → w'.heap[g]? = w.heap[g]?) : Ow w' base e k A n c xs := by
  refine ⟨h.1, h.2.1, h.2.2.1, ?_⟩
  rcases h.2.2.2 with h0 | ⟨g, cur, rfl, hbs, hh, rest⟩
  · exact .inl h0
  · by_cases hc : c = 0
    · exact .inl hc
    · refine .inr ⟨g, cur, rfl, hbs, ?_, rest⟩
      rw [hb g (by simp [rowOf, hc])]
      exact hh

theorem Ow.alloc (h : Ow w base e k A n c xs) (o : Obj) : Ow (w.alloc o) base e k A n c xs :=
  h.block fun g hg => Below.heap_alloc w o g (h.row g hg).2
theorem Ow.drew (h : Ow w base e k A n c xs) : Ow w.drew base e k A n c xs := h
theorem Ow.drewN (h : Ow w base e k A n c xs) (m : Nat) : Ow (w.drewN m) base e k A n c xs := h
theorem Ow.below (h : Ow w base e k A n c xs) (hb : Below w.heap.size w w') : Ow w' base e k A n c xs :=
  h.block fun g hg => hb.block g (h.row g hg).2
theorem Ow.below' (h : Ow w base e k A n c xs) (hb : Below B w w') (hB : ∀ g, rowOf A c = some g → g < B) : Ow w' base e k A n c xs :=
  h.block fun g hg => hb.block g (hB g hg)
theorem Ow.set (h : Ow w base e k A n c xs) {p : Addr} (hp : ∀ g, rowOf A c = some g → g ≠ p.block) (u : Value) : Ow (w.setCell p u) base e k A n c xs :=
  h.block fun g hg => Below.heap_setCell w p u g (hp g hg)
theorem Ow.rebase {base' : Nat} (h : Ow w base e k A n c xs) (hb : base' ≤ base) : Ow w base' e k A n c xs := by
  refine ⟨h.1, h.2.1, h.2.2.1, ?_⟩
  rcases h.2.2.2 with h0 | ⟨g, cur, e1, hbs, rest⟩
  · exact .inl h0
  · exact .inr ⟨g, cur, e1, Nat.le_trans hb hbs, rest⟩

/-- It reads as a list. -/
theorem Ow.sl (h : Ow w base e k A n c xs) : Sl w w.heap.size k A n xs := by
  refine ⟨h.1, fun h0 h1 => ?_⟩
  rcases h.2.2.2 with hc | ⟨g, cur, rfl, hbs, hh, hsz, htk⟩
  · have := h.2.1; omega
  · refine ⟨g, 0, rfl, (Array.getElem?_eq_some_iff.1 hh).1, fun j u hu => ?_⟩
    rw [cell_of_row w g (0 + j) cur e (0, 0) hh]
    rw [← htk, List.getElem?_take] at hu
    split at hu
    · simpa using hu
    · cases hu

theorem Ow.of_owns {v : Value} (h : w.ownsRow base e k v n xs) : ∃ A c, v = .slice A n c ∧ Ow w base e k A n c xs ∧ rowOf A c = (if c = 0 then none else v.ownBlock) := by
  rcases h.2 with ⟨rfl, rfl⟩ | ⟨g, cap, cur, rfl, hb, hh, hnc, hcm, hcs, htk⟩
  · exact ⟨none, 0, rfl, ⟨h.1, by omega, by unfold maxLen; omega, .inl rfl⟩, by simp [rowOf]⟩
  · exact ⟨_, cap, rfl, ⟨h.1, hnc, hcm, .inr ⟨g, cur, rfl, hb, hh, hcs, htk⟩⟩, by simp [rowOf, Value.ownBlock]⟩
end

section
variable {P : Program} (w : World)

theorem run_append_none (t ty e : TypeId) (i : TypeInfo) (ht : P.underlying t = some (.slice e)) (hi : P.info? e = some i) (A A2 : Option Addr) (n c c2 : Nat) (hnc : n ≤ c) (hA : A = none → n = 0) :
    (Builtin.append_ #[t, t] ty #[.slice A n c, .slice A2 0 c2]).run P w = .ok (.slice A n c) w := by
  rcases A with _ | a <;> rcases A2 with _ | a2
  · have := hA rfl; subst this; simp [Builtin.append_, run_underlying ht, sizeOf, typeInfo, hi, Builtin.lenOf, Builtin.firstCells]
  · have := hA rfl; subst this; simp [Builtin.append_, run_underlying ht, sizeOf, typeInfo, hi, Builtin.lenOf, Builtin.firstCells, loadCells, loadCellsFrom]
  · simp [Builtin.append_, run_underlying ht, sizeOf, typeInfo, hi, Builtin.lenOf, Builtin.firstCells, hnc, storeCells]
  · simp [Builtin.append_, run_underlying ht, sizeOf, typeInfo, hi, Builtin.lenOf, Builtin.firstCells, hnc, storeCells, loadCells, loadCellsFrom]

/-- append, whatever the source: nil, empty or not. -/
theorem run_append_Ow (base : Nat) (t ty e : TypeId) (i : TypeInfo) (z : Value) (k bytes : Nat) (ht : P.underlying t = some (.slice e)) (hi : P.info? e = some i) (hz : i.zero = some z)
    (hk : i.size = k) (hby : i.bytes = bytes) (hzs : z.cells.size = k) (hk0 : 0 < k)
    (A : Option Addr) (n c : Nat) (xs : List Value) (hown : Ow w base e k A n c xs)
    (B : Nat) (A2 : Option Addr) (m c2 : Nat) (news : List Value) (hs : Sl w B k A2 m news) (h1 : ∀ u ∈ news, u.oneCell' = true)
    (h63 : n + m ≤ maxLen) (hbytes : (n + m) * bytes ≤ 140737488355328) (hbase : base ≤ w.heap.size) :
    ∃ A' c' w', (Builtin.append_ #[t, t] ty #[.slice A n c, .slice A2 m c2]).run P w = .ok (.slice A' (n + m) c') w' ∧ Ow w' base e k A' (n + m) c' (xs ++ news) ∧ w.grownBy w' (rowOf A c) ∧
      (rowOf A' c' = rowOf A c ∨ (rowOf A' c' = some w.heap.size ∧ 0 < m)) := by
  rcases Nat.eq_zero_or_pos m with rfl | hm
  · obtain rfl : news = [] := List.eq_nil_of_length_eq_zero (by simpa using hs.1)
    refine ⟨A, c, w, run_append_none w t ty e i ht hi A A2 n c c2 hown.2.1 ?_, by simpa using hown, World.grownBy.refl w _, .inl rfl⟩
    intro hA
    rcases hown.2.2.2 with h0 | ⟨g, cur, hA', _⟩
    · have := hown.2.1; omega
    · rw [hA] at hA'; cases hA'
  · obtain ⟨b, off, rfl, hb, hc⟩ := hs.2 hm hk0
    have hnews : ∀ j u, news[j]? = some u → w.cell? ((⟨b, off, none⟩ : Addr).add j) = some u := by
      intro j u hu
      have hadd : (⟨b, off, none⟩ : Addr).add j = ⟨b, off + j, none⟩ := by unfold Addr.add; split <;> simp_all
      rw [hadd]
      exact hc j u hu
    rcases Nat.eq_zero_or_pos c with rfl | hcp
    · have hn0 : n = 0 := by have := hown.2.1; omega
      subst hn0
      obtain rfl : xs = [] := List.eq_nil_of_length_eq_zero (by simpa using hown.1)
      rcases A with _ | a
      · obtain ⟨v', w', hrun, ho, hg, _, hat⟩ := run_append_own_at (P := P) w base t ty e i z k bytes ht hi hz hk hby hzs hk0 (.slice none 0 0) 0 [] (World.ownsRow_nil w base e k) ⟨b, off, none⟩ m c2 news hs.1 hnews h1 h63 hbytes hbase
        obtain ⟨A', c', rfl, hO, hrow⟩ := Ow.of_owns ho
        refine ⟨A', c', w', hrun, hO, by simpa [rowOf, Value.ownBlock] using hg, ?_⟩
        rw [hrow]
        by_cases hc' : c' = 0
        · simp [hc', rowOf]
        · rw [if_neg hc']
          rcases hat with h | h
          · left; rw [h]; simp [rowOf, Value.ownBlock]
          · exact .inr ⟨h, hm⟩
      · have hr := run_append_grow (P := P) w t ty e i z ht hi hz a 0 0 [] (by simp) (fun j v h => by simp at h) ⟨b, off, none⟩ m c2 news (by rw [hs.1, hk]) hnews (by omega) (by unfold maxLen at h63; omega) (by
            have := growslice_fits (need := 0 + m) (old := 0) (bytes := bytes) (by omega) hbytes
            rw [hby]; exact this)
        have hge := grownCap_ge w (0 + m) 0 e
        have hcm : grownCap w (0 + m) 0 e ≤ maxLen := grownCap_le_maxLen w (0 + m) 0 e h63
        refine ⟨_, _, _, hr, ⟨by simp [hs.1], hge, hcm, .inr ⟨w.heap.size, _, rfl, hbase, heap_alloc_new w.drew _, ?_, ?_⟩⟩, ⟨rfl, rfl, rfl, by simp, fun q hq _ => Below.heap_alloc w.drew _ q hq⟩, .inr ⟨?_, hm⟩⟩
        · simp only [Array.size_append, List.size_toArray, size_zeroCells, hzs, hs.1, List.length_nil, Nat.zero_add, ← Nat.add_mul]
          congr 1
          simp only [Nat.zero_add] at hge
          omega
        · simp only [Array.toList_append, List.nil_append]
          rw [show (0 + m) * k = news.length from by rw [hs.1]; simp]
          exact List.take_left
        · have : grownCap w (0 + m) 0 e ≠ 0 := by omega
          simp [rowOf] at this ⊢
          exact this
    · rcases hown.2.2.2 with h0 | ⟨g, cur, rfl, hbg, hh, hsz, htk⟩
      · omega
      · have ho0 : w.ownsRow base e k (.slice (some ⟨g, 0, none⟩) n c) n xs := ⟨hown.1, .inr ⟨g, c, cur, rfl, hbg, hh, hown.2.1, hown.2.2.1, hsz, htk⟩⟩
        obtain ⟨v', w', hrun, ho, hg, _, hat⟩ := run_append_own_at (P := P) w base t ty e i z k bytes ht hi hz hk hby hzs hk0 _ n xs ho0 ⟨b, off, none⟩ m c2 news hs.1 hnews h1 h63 hbytes hbase
        obtain ⟨A', c', rfl, hO, hrow⟩ := Ow.of_owns ho
        have hc0 : c ≠ 0 := by omega
        have hc' : c' ≠ 0 := by have := hO.2.1; omega
        refine ⟨A', c', w', hrun, hO, by simpa [rowOf, Value.ownBlock, hc0] using hg, ?_⟩
        rw [hrow, if_neg hc']
        rcases hat with h | h
        · left; rw [h]; simp [rowOf, Value.ownBlock, hc0]
        · exact .inr ⟨h, hm⟩

theorem wpList_append_Ow {ops : Array Oper} {rest : List Oper} {o : Oper} {a : Act} {Q : Exit → Act → World → Prop} (hgd : o.guard = none) (s x : Operand) (t : TypeId)
    (ho : o.op = .call { callee := .builtin .append, args := #[s, x], argTypes := #[t, t] })
    (base : Nat) (e : TypeId) (i : TypeInfo) (z : Value) (k bytes : Nat) (ht : P.underlying t = some (.slice e)) (hi : P.info? e = some i) (hz : i.zero = some z)
    (hk : i.size = k) (hby : i.bytes = bytes) (hzs : z.cells.size = k) (hk0 : 0 < k)
    (A : Option Addr) (n c : Nat) (xs : List Value) (hsv : a.eval s = .slice A n c) (hown : Ow w base e k A n c xs)
    (B : Nat) (A2 : Option Addr) (m c2 : Nat) (news : List Value) (hxv : a.eval x = .slice A2 m c2) (hs : Sl w B k A2 m news) (h1 : ∀ u ∈ news, u.oneCell' = true)
    (h63 : n + m ≤ maxLen) (hbytes : (n + m) * bytes ≤ 140737488355328) (hbase : base ≤ w.heap.size)
    (h : ∀ A' c' w', Ow w' base e k A' (n + m) c' (xs ++ news) → w.grownBy w' (rowOf A c) → (rowOf A' c' = rowOf A c ∨ (rowOf A' c' = some w.heap.size ∧ 0 < m)) →
      wpList P ops Q rest (a.put o.dst (.slice A' (n + m) c')) w') : wpList P ops Q (o :: rest) a w := by
  obtain ⟨A', c', w', hrun, h2, h3, h4⟩ := run_append_Ow (P := P) w base t o.type e i z k bytes ht hi hz hk hby hzs hk0 A n c xs hown B A2 m c2 news hs h1 h63 hbytes hbase
  refine wpList_plain hgd fun K hK => ?_
  unfold Oper.wp execOp
  simp only [ho, resolve, invoke, builtin, Sem.run_bind, Sem.run_pure, Result.andThen_ok, List.map_toArray, List.map_cons, List.map_nil, hsv, hxv, hrun]
  exact hK _ _ (h A' c' w' h2 h3 h4)
end

/-- A slice of ints of the call's own. -/
def OwI (w : World) (base : Nat) (e : TypeId) (A : Option Addr) (n c : Nat) (l : List Int) : Prop := Ow w base e 1 A n c (l.map (Value.int .i64))

section
variable {w w' : World} {base : Nat} {e : TypeId} {n c : Nat} {A : Option Addr} {l : List Int}
theorem OwI.nil_ (w : World) (base : Nat) (e : TypeId) (A : Option Addr) : OwI w base e A 0 0 [] := Ow.nil_ w base e 1 A
theorem OwI.len (h : OwI w base e A n c l) : l.length = n := by have := h.1; simpa using this
theorem OwI.ints (h : OwI w base e A n c l) : Ints w w.heap.size A n l := Ow.sl h
theorem OwI.alloc (h : OwI w base e A n c l) (o : Obj) : OwI (w.alloc o) base e A n c l := Ow.alloc h o
theorem OwI.drew (h : OwI w base e A n c l) : OwI w.drew base e A n c l := h
theorem OwI.drewN (h : OwI w base e A n c l) (m : Nat) : OwI (w.drewN m) base e A n c l := h
theorem OwI.below (h : OwI w base e A n c l) (hb : Below w.heap.size w w') : OwI w' base e A n c l := Ow.below h hb
end

theorem int_oneCell (l : List Int) : ∀ u ∈ l.map (Value.int .i64), u.oneCell' = true := by
  intro u hu
  obtain ⟨x, _, rfl⟩ := List.mem_map.1 hu
  rfl

end Go.Proofs.Ytfahmfaakjnpcaa
namespace Go.Proofs.Ytfahmfaakjnpcaa
set_option linter.unusedVariables false
set_option linter.unusedSimpArgs false
open Go.RowKit

theorem flatMap_at {α β : Type} {enc : α → List β} {k : Nat} (hk : ∀ x, (enc x).length = k) : ∀ (xs : List α) (i j : Nat) (x : α) (u : β), xs[i]? = some x → (enc x)[j]? = some u → (xs.flatMap enc)[i * k + j]? = some u
  | [], i, j, x, u, hx, _ => by simp at hx
  | y :: ys, 0, j, x, u, hx, hu => by
    simp at hx
    subst hx
    have hj : j < (enc y).length := (List.getElem?_eq_some_iff.1 hu).1
    rw [List.flatMap_cons, Nat.zero_mul, Nat.zero_add, List.getElem?_append_left hj]
    exact hu
  | y :: ys, i + 1, j, x, u, hx, hu => by
    have hx' : ys[i]? = some x := by simpa using hx
    have e : (i + 1) * k + j = (enc y).length + (i * k + j) := by rw [hk y, Nat.add_mul]; omega
    rw [List.flatMap_cons, e, List.getElem?_append_right (by omega), Nat.add_sub_cancel_left]
    exact flatMap_at hk ys i j x u hx' hu
theorem flatMap_len {α β : Type} {enc : α → List β} {k : Nat} (hk : ∀ x, (enc x).length = k) : ∀ (xs : List α), (xs.flatMap enc).length = xs.length * k
  | [] => by simp
  | y :: ys => by rw [List.flatMap_cons, List.length_append, hk y, flatMap_len hk ys, List.length_cons, Nat.add_mul]; omega

/-- The slice reads as the list xs of records. -/
def Recs {α : Type} (enc : α → List Value) (k : Nat) (w : World) (B : Nat) (A : Option Addr) (n : Nat) (xs : List α) : Prop := xs.length = n ∧ Sl w B k A n (xs.flatMap enc)

section
variable {α : Type} {enc : α → List Value} {k : Nat} {w w' : World} {B B' n : Nat} {A : Option Addr} {xs : List α}
theorem Recs.len (h : Recs enc k w B A n xs) : xs.length = n := h.1
theorem Recs.sl (h : Recs enc k w B A n xs) : Sl w B k A n (xs.flatMap enc) := h.2
theorem Recs.nil_ (w : World) (B : Nat) (A : Option Addr) : Recs enc k w B A 0 [] := ⟨rfl, Sl.nil_ w B k A⟩
theorem Recs.more (h : Recs enc k w B A n xs) (hB : B ≤ B') : Recs enc k w B' A n xs := ⟨h.1, h.2.more hB⟩
theorem Recs.below (h : Recs enc k w B A n xs) (hb : Below B w w') : Recs enc k w' B A n xs := ⟨h.1, h.2.below hb⟩
theorem Recs.below' (h : Recs enc k w B A n xs) (hb : Below B' w w') (hB : B ≤ B') : Recs enc k w' B A n xs := ⟨h.1, h.2.below' hb hB⟩
theorem Recs.drew (h : Recs enc k w B A n xs) : Recs enc k w.drew B A n xs := h
theorem Recs.drewN (h : Recs enc k w B A n xs) (m : Nat) : Recs enc k (w.drewN m) B A n xs := h
theorem Recs.alloc (h : Recs enc k w B A n xs) (hB : B ≤ w.heap.size) (o : Obj) : Recs enc k (w.alloc o) B A n xs := ⟨h.1, h.2.alloc hB o⟩
theorem Recs.at_ (hk : ∀ x, (enc x).length = k) (hk0 : 0 < k) (h : Recs enc k w B A n xs) {i : Nat} (hi : i < n) :
    ∃ b off x, A = some ⟨b, off, none⟩ ∧ b < B ∧ Hid (xs[i]? = some x) ∧ ∀ j u, (enc x)[j]? = some u → w.cell? ⟨b, off + (i * k + j), none⟩ = some u := by
  have hl : i < xs.length := by rw [h.1]; exact hi
  obtain ⟨b, off, e, hb, hc⟩ := h.2.2 (by omega) hk0
  have hx : xs[i]? = some xs[i] := List.getElem?_eq_getElem hl
  exact ⟨b, off, xs[i], e, hb, hx, fun j u hu => hc _ u (flatMap_at hk xs i j _ u hx hu)⟩
end

/-- A new block of records, read as a slice. -/
theorem Recs.new_at {α : Type} {enc : α → List Value} {k : Nat} (hk : ∀ x, (enc x).length = k) (w : World) (g : Nat) (hg : g = w.heap.size) (xs : List α) (n : Nat) (hn : xs.length = n) (cells : Array Value) (hc : cells.toList = xs.flatMap enc) (e : TypeId) :
    Recs enc k (w.alloc (.cells cells e)) (g + 1) (some ⟨g, 0, none⟩) n xs := by
  subst hg hn
  refine ⟨rfl, by rw [flatMap_len hk], fun _ _ => ⟨_, 0, rfl, Nat.lt_succ_self _, fun j u hu => ?_⟩⟩
  rw [cell_of_row _ w.heap.size (0 + j) _ e (0, 0) (heap_alloc_new w _), ← hc] at *
  simpa using hu

/-- A slice of records of the call's own. -/
def OwR {α : Type} (enc : α → List Value) (k : Nat) (w : World) (base : Nat) (e : TypeId) (A : Option Addr) (n c : Nat) (xs : List α) : Prop := xs.length = n ∧ Ow w base e k A n c (xs.flatMap enc)
section
variable {α : Type} {enc : α → List Value} {k : Nat} {w w' : World} {base n c : Nat} {e : TypeId} {A : Option Addr} {xs : List α}
theorem OwR.nil_ (w : World) (base : Nat) (e : TypeId) (A : Option Addr) : OwR enc k w base e A 0 0 [] := ⟨rfl, Ow.nil_ w base e k A⟩
theorem OwR.len (h : OwR enc k w base e A n c xs) : xs.length = n := h.1
theorem OwR.recs (h : OwR enc k w base e A n c xs) : Recs enc k w w.heap.size A n xs := ⟨h.1, h.2.sl⟩
theorem OwR.alloc (h : OwR enc k w base e A n c xs) (o : Obj) : OwR enc k (w.alloc o) base e A n c xs := ⟨h.1, h.2.alloc o⟩
theorem OwR.drew (h : OwR enc k w base e A n c xs) : OwR enc k w.drew base e A n c xs := h
theorem OwR.drewN (h : OwR enc k w base e A n c xs) (m : Nat) : OwR enc k (w.drewN m) base e A n c xs := h
theorem OwR.below (h : OwR enc k w base e A n c xs) (hb : Below w.heap.size w w') : OwR enc k w' base e A n c xs := ⟨h.1, h.2.below hb⟩
end

end Go.Proofs.Ytfahmfaakjnpcaa
namespace Go.Proofs.Ytfahmfaakjnpcaa
set_option linter.unusedVariables false
set_option linter.unusedSimpArgs false
open Go.RowKit

theorem step_append_Ow {P : Program} {ops : Array Oper} {o : Oper} {a : Act} {w : World} {K : Act → World → Prop} {Q : Exit → Act → World → Prop} {E : Prop}
    (hg : o.guard = none) (s x : Operand) (t : TypeId) (ho : o.op = Op.call { callee := Callee.builtin Builtin.append, args := #[s, x], argTypes := #[t, t] })
    (base : Nat) (e : TypeId) (i : TypeInfo) (z : Value) (k bytes : Nat) (ht : P.underlying t = some (.slice e)) (hi : P.info? e = some i) (hz : i.zero = some z)
    (hk : i.size = k) (hby : i.bytes = bytes) (hzs : z.cells.size = k) (hk0 : 0 < k)
    (A : Option Addr) (n c : Nat) (xs : List Value) (hsv : a.eval s = .slice A n c) (hown : Ow w base e k A n c xs)
    (B : Nat) (A2 : Option Addr) (m c2 : Nat) (news : List Value) (hxv : a.eval x = .slice A2 m c2) (hs : Sl w B k A2 m news) (h1 : ∀ u ∈ news, u.oneCell' = true)
    (h63 : n + m ≤ maxLen) (hbytes : (n + m) * bytes ≤ 140737488355328) (hbase : base ≤ w.heap.size)
    (h : ∀ A' c' w', Ow w' base e k A' (n + m) c' (xs ++ news) → w.grownBy w' (rowOf A c) → (rowOf A' c' = rowOf A c ∨ (rowOf A' c' = some w.heap.size ∧ 0 < m)) → K (a.put o.dst (.slice A' (n + m) c')) w') :
    if Region.wanted o (yielded ops a.tmps) = true then Oper.wp P o a w K Q else E := by
  have hw : Region.wanted o (yielded ops a.tmps) = true := by simp [Region.wanted, hg]
  rw [if_pos hw]
  obtain ⟨A', c', w', hrun, h2, h3, h4⟩ := run_append_Ow (P := P) w base t o.type e i z k bytes ht hi hz hk hby hzs hk0 A n c xs hown B A2 m c2 news hs h1 h63 hbytes hbase
  unfold Oper.wp execOp
  simp only [ho, resolve, invoke, builtin, Sem.run_bind, Sem.run_pure, Result.andThen_ok, List.map_toArray, List.map_cons, List.map_nil, hsv, hxv, hrun]
  exact h A' c' w' h2 h3 h4
end Go.Proofs.Ytfahmfaakjnpcaa
namespace Go.Proofs.Ytfahmfaakjnpcaa
set_option linter.unusedVariables false
set_option linter.unusedSimpArgs false
open Go.RowKit

def clamp (t : Int) : Int := min (max t 0) 1073741824
theorem clamp_bd (t : Int) : 0 ≤ clamp t ∧ clamp t ≤ 1073741824 := by unfold clamp; omega
theorem clamp_of {t : Int} (h0 : 0 ≤ t) (h1 : t ≤ 1073741824) : clamp t = t := by unfold clamp; omega
def later (t : Int) (l : List Int) : Int := l.foldl (fun now x => clamp (now + clamp x)) (clamp t)
theorem later_snoc (t : Int) (l : List Int) (x : Int) : later t (l ++ [x]) = clamp (later t l + clamp x) := by simp [later]
theorem later_bd (t : Int) (l : List Int) : 0 ≤ later t l ∧ later t l ≤ 1073741824 := by
  unfold later
  have : ∀ a : Int, 0 ≤ a ∧ a ≤ 1073741824 → 0 ≤ l.foldl (fun now x => clamp (now + clamp x)) a ∧ l.foldl (fun now x => clamp (now + clamp x)) a ≤ 1073741824 := by
    induction l with
    | nil => exact fun a h => h
    | cons y l ih => exact fun a _ => ih _ (clamp_bd _)
  exact this _ (clamp_bd t)
theorem later_top (a : List Int) (t : Int) (b : List Int) (h : later t a = 1073741824) : later t (a ++ b) = 1073741824 := by
  unfold later at h ⊢
  rw [List.foldl_append, h]
  clear h
  induction b with
  | nil => rfl
  | cons y l ih =>
    have e : clamp (1073741824 + clamp y) = 1073741824 := by have := clamp_bd y; unfold clamp at *; omega
    simp only [List.foldl_cons, e]
    exact ih
def gone (since now : Int) : Int := max (clamp now - clamp since) 0
def oldB (since age now : Int) : Bool := decide (clamp (clamp since + clamp age) ≤ clamp now)
def firstStep (s : Int × Int) (i : Nat) (x : Int) : Int × Int := if s.1 < 0 ∨ clamp x < s.2 then ((i : Int), clamp x) else s
def firstRun (l : List Int) : (Int × Int) × Nat := l.foldl (fun s x => (firstStep s.1 s.2 x, s.2 + 1)) ((-1, 0), 0)
/-- The place and the tick of the first: -1 and 0 of none. -/
def firstOf (l : List Int) : Int × Int := (firstRun l).1
theorem firstRun_len (l : List Int) : (firstRun l).2 = l.length := by
  unfold firstRun
  have : ∀ (l : List Int) (s : (Int × Int) × Nat), (l.foldl (fun s x => (firstStep s.1 s.2 x, s.2 + 1)) s).2 = s.2 + l.length := by
    intro l
    induction l with
    | nil => intro s; rfl
    | cons y l ih => intro s; rw [List.foldl_cons, ih]; simp; omega
  simpa using this l ((-1, 0), 0)
theorem firstOf_snoc (l : List Int) (x : Int) : firstOf (l ++ [x]) = firstStep (firstOf l) l.length x := by
  have h := firstRun_len l
  unfold firstOf
  rw [← h]
  simp [firstRun]
theorem firstOf_take {l : List Int} {k : Nat} {x : Int} (hk : k < l.length) (h : l[k]? = some x) : firstOf (l.take (k + 1)) = firstStep (firstOf (l.take k)) k x := by
  rw [take_succ_of h, firstOf_snoc, List.length_take, Nat.min_eq_left (by omega)]

theorem of_any (t : Int) (w : World) : Calls Try.prog 77 #[.int .i64 t] w fun e w' => e = .returned (.int .i64 (clamp t)) ∧ w = w' := by
  rcases (by omega : t < 0 ∨ (0 ≤ t ∧ t ≤ 1073741824) ∨ 1073741824 < t) with h | ⟨h, h1⟩ | h
  · go_enter Try.func77, Try.ntmps77
    go_wp2
    go_ret
    exact ⟨ret_int (by unfold clamp; omega), rfl⟩
  · go_enter Try.func77, Try.ntmps77
    go_wp2
    go_ret
    exact ⟨ret_int (by unfold clamp; omega), rfl⟩
  · have h0 : ¬ t < 0 := by omega
    go_enter Try.func77, Try.ntmps77
    go_wp2
    go_ret
    exact ⟨ret_int (by unfold clamp; omega), rfl⟩

theorem plus_any (t n : Int) (w : World) (h0 : 0 ≤ t) (h1 : t ≤ 1073741824) (h2 : 0 ≤ n) (h3 : n ≤ 1073741824) :
    Calls Try.prog 78 #[.int .i64 t, .int .i64 n] w fun e w' => e = .returned (.int .i64 (clamp (t + n))) ∧ w = w' := by
  go_enter Try.func78, Try.ntmps78
  go_wp2_with (go_at_call 77; refine (of_any _ _).mono ?_; rintro e w' ⟨rfl, rfl⟩)
  go_ret
  exact ⟨rfl, rfl⟩


theorem Gone_any (since now : Int) (w : World) : Calls Try.prog 74 #[.int .i64 since, .int .i64 now] w fun e w' => e = .returned (.int .i64 (gone since now)) ∧ w = w' := by
  have b1 := clamp_bd since
  have b2 := clamp_bd now
  by_cases h : clamp now - clamp since < 0
  all_goals
    go_enter Try.func74, Try.ntmps74
    go_wp2_with (go_at_call 77; refine (of_any _ _).mono ?_; rintro e w' ⟨rfl, rfl⟩)
    go_ret
    exact ⟨ret_int (by unfold gone; omega), rfl⟩


set_option maxHeartbeats 400000 in
theorem Later_any (t : Int) (A : Option Addr) (n c B : Nat) (l : List Int) (w : World) (hl : Ints w B A n l) (hn : n ≤ 1000) :
    Calls Try.prog 67 #[.int .i64 t, .slice A n c] w fun e w' => e = .returned (.int .i64 (later t l)) ∧ w = w' := by
  have hlen := hl.len
  have HL := Lib.hid hlen
  clear hlen
  go_enter Try.func67, Try.ntmps67
  go_wp2
  go_step3
  go_wp2_with (go_at_call 77; refine (of_any _ _).mono ?_; rintro e w' ⟨rfl, rfl⟩)
  go_step3
  go_wp2
  go_loop [5, 12] (fun s5 s12 => ∃ k : Nat, k ≤ n ∧ s12 = .int .i64 k ∧ s5 = .int .i64 (later t (l.take k))) (fun _ s12 => n - (intOf s12).toNat)
  case atStart => exact ⟨0, Nat.zero_le _, rfl, rfl⟩
  case round =>
    obtain ⟨k, hk, rfl, rfl⟩ := hrel
    have hb := later_bd t (l.take k)
    by_cases hlt : k < n
    · obtain ⟨b, off, x, rfl, hbb, hx, hc⟩ := hl.at_ hlt
      have hb2 := clamp_bd x
      have hs : later t (l.take (k + 1)) = clamp (later t (l.take k) + clamp x) := by rw [take_succ_of hx.out, later_snoc]
      have HS := Lib.hid hs
      clear hs
      by_cases htop : later t (l.take k) = 1073741824
      · have hfin : later t l = 1073741824 := by have := later_top (l.take k) t (l.drop k) htop; rwa [List.take_append_drop] at this
        have HF := Lib.hid hfin
        clear hfin
        have hbt : (later t (l.take k) == 1073741824) = true := by simpa using htop
        have HT := Lib.hid htop
        clear htop
        go_wp2
        go_ret
        exact ⟨ret_int (by rw [HF.out, HT.out]), rfl⟩
      · have hbt : (later t (l.take k) == 1073741824) = false := by simpa using htop
        go_wp2_with (first | (go_at_call 77; refine (of_any _ _).mono ?_; rintro e w' ⟨rfl, rfl⟩) | (go_at_call 78; refine (plus_any _ _ _ (by omega) (by omega) (by omega) (by omega)).mono ?_; rintro e w' ⟨rfl, rfl⟩))
        go_round
        case rel => exact ⟨k + 1, by omega, by go_num, by rw [HS.out]⟩
        case measure => simp [intOf]; omega
    · go_wp2
      go_ret
      exact ⟨ret_int (by rw [List.take_of_length_le (by rw [HL.out]; omega)]), rfl⟩

end Go.Proofs.Ytfahmfaakjnpcaa
namespace Go.Proofs.Ytfahmfaakjnpcaa
set_option linter.unusedVariables false
set_option linter.unusedSimpArgs false
open Go.RowKit

def sLt (a b : ByteArray) : Bool := Op.bytesLess a.toList b.toList
def sEq (a b : ByteArray) : Bool := a.toList == b.toList
def sLe (a b : ByteArray) : Bool := Op.bytesLess a.toList b.toList || a.toList == b.toList
theorem sEq_iff (a b : ByteArray) : sEq a b = true ↔ a = b := by
  unfold sEq
  rw [beq_iff_eq, ByteArray.toList_eq, ByteArray.toList_eq]
  exact ⟨fun h => ByteArray.ext (Array.toList_inj.1 h), fun h => by rw [h]⟩
theorem sEq_self (a : ByteArray) : sEq a a = true := by simp [sEq]
theorem sEq_decide (a b : ByteArray) : sEq a b = decide (a = b) := by
  rw [Bool.eq_iff_iff, sEq_iff, decide_eq_true_iff]
theorem bl_irrefl : ∀ (x : List UInt8), Op.bytesLess x x = false
  | [] => rfl
  | a :: x => by simp [Op.bytesLess, bl_irrefl x]
theorem bl_asymm : ∀ (x y : List UInt8), Op.bytesLess x y = true → Op.bytesLess y x = false
  | [], [], h => by simp [Op.bytesLess] at h
  | [], _ :: _, _ => rfl
  | _ :: _, [], h => by simp [Op.bytesLess] at h
  | a :: x, b :: y, h => by
    simp only [Op.bytesLess, Bool.or_eq_true, decide_eq_true_eq, Bool.and_eq_true, beq_iff_eq] at h
    simp only [Op.bytesLess, Bool.or_eq_false_iff, decide_eq_false_iff_not, Bool.and_eq_false_iff, beq_eq_false_iff_ne]
    rcases h with h | ⟨rfl, h⟩
    · rw [UInt8.lt_iff_toNat_lt] at *
      refine ⟨by omega, .inl fun e => ?_⟩
      subst e
      omega
    · exact ⟨by rw [UInt8.lt_iff_toNat_lt]; omega, .inr (bl_asymm x y h)⟩
theorem bl_trans : ∀ (x y z : List UInt8), Op.bytesLess x y = true → Op.bytesLess y z = true → Op.bytesLess x z = true
  | [], _, [], _, h => by cases ‹List UInt8› <;> simp [Op.bytesLess] at h
  | [], _, _ :: _, _, _ => rfl
  | _ :: _, [], _, h, _ => by simp [Op.bytesLess] at h
  | _ :: _, _ :: _, [], _, h => by simp [Op.bytesLess] at h
  | a :: x, b :: y, c :: z, h1, h2 => by
    simp only [Op.bytesLess, Bool.or_eq_true, decide_eq_true_eq, Bool.and_eq_true, beq_iff_eq] at h1 h2 ⊢
    rcases h1 with h1 | ⟨rfl, h1⟩
    · rcases h2 with h2 | ⟨rfl, h2⟩
      · left; rw [UInt8.lt_iff_toNat_lt] at *; omega
      · exact .inl h1
    · rcases h2 with h2 | ⟨rfl, h2⟩
      · exact .inl h2
      · exact .inr ⟨rfl, bl_trans x y z h1 h2⟩
theorem bl_tri : ∀ (x y : List UInt8), Op.bytesLess x y = true ∨ x = y ∨ Op.bytesLess y x = true
  | [], [] => .inr (.inl rfl)
  | [], _ :: _ => .inl rfl
  | _ :: _, [] => .inr (.inr rfl)
  | a :: x, b :: y => by
    simp only [Op.bytesLess, Bool.or_eq_true, decide_eq_true_eq, Bool.and_eq_true, beq_iff_eq, List.cons.injEq]
    rcases Nat.lt_trichotomy a.toNat b.toNat with h | h | h
    · exact .inl (.inl (UInt8.lt_iff_toNat_lt.2 h))
    · have e : a = b := UInt8.toNat_inj.1 h
      subst e
      rcases bl_tri x y with h | h | h
      · exact .inl (.inr ⟨rfl, h⟩)
      · exact .inr (.inl ⟨rfl, h⟩)
      · exact .inr (.inr (.inr ⟨rfl, h⟩))
    · exact .inr (.inr (.inl (UInt8.lt_iff_toNat_lt.2 h)))
theorem toList_inj {a b : ByteArray} (h : a.toList = b.toList) : a = b := (sEq_iff a b).1 (by unfold sEq; simp [h])
theorem sLt_irrefl (a : ByteArray) : sLt a a = false := bl_irrefl _
theorem sLt_asymm {a b : ByteArray} (h : sLt a b = true) : sLt b a = false := bl_asymm _ _ h
theorem sLt_trans {a b c : ByteArray} (h1 : sLt a b = true) (h2 : sLt b c = true) : sLt a c = true := bl_trans _ _ _ h1 h2
theorem sLt_tri (a b : ByteArray) : sLt a b = true ∨ a = b ∨ sLt b a = true := by
  rcases bl_tri a.toList b.toList with h | h | h
  · exact .inl h
  · exact .inr (.inl (toList_inj h))
  · exact .inr (.inr h)
theorem sLe_iff (a b : ByteArray) : sLe a b = true ↔ sLt a b = true ∨ a = b := by
  unfold sLe
  rw [Bool.or_eq_true]
  exact ⟨fun h => h.imp id fun h => (sEq_iff a b).1 h, fun h => h.imp id fun h => (sEq_iff a b).2 h⟩
theorem sLe_not (a b : ByteArray) : sLe a b = !(sLt b a) := by
  rw [Bool.eq_iff_iff, sLe_iff]
  simp only [Bool.not_eq_true']
  constructor
  · rintro (h | rfl)
    · exact sLt_asymm h
    · exact sLt_irrefl a
  · intro h
    rcases sLt_tri a b with h1 | h1 | h1
    · exact .inl h1
    · exact .inr h1
    · rw [h] at h1; cases h1
theorem toList_empty : (⟨#[]⟩ : ByteArray).toList = [] := by rw [ByteArray.toList_eq]
theorem sLe_empty (a : ByteArray) : sLe a ⟨#[]⟩ = sEq a ⟨#[]⟩ := by
  unfold sLe sEq
  rw [toList_empty]
  cases a.toList <;> simp [Op.bytesLess]

/-- A name that is kept: the name, the row, the error, until when. -/
abbrev Kn := ByteArray × ByteArray × Int × Int
def placeK (l : List Kn) (s : ByteArray) : Option Nat := l.findIdx? fun k => sEq k.1 s
def placeI (l : List Kn) (s : ByteArray) : Int := match placeK l s with | some i => (i : Int) | none => -1
def freshB (now : Int) (k : Kn) : Bool := decide (clamp now < clamp k.2.2.2)
def getK (l : List Kn) (s : ByteArray) (now : Int) : Option Kn := match placeK l s with | none => none | some i => match l[i]? with | none => none | some k => if freshB now k = true then some k else none
def abovePl (l : List Kn) (s : ByteArray) : Nat := l.findIdx fun k => !sLe k.1 s
def oneK (l : List Kn) (x : Kn) : List Kn := match placeK l x.1 with | some i => l.set i x | none => l.take (abovePl l x.1) ++ x :: l.drop (abovePl l x.1)
def putK (l more : List Kn) : List Kn := more.foldl oneK l
def freshK (l : List Kn) (now : Int) : List Kn := l.filter (freshB now)
def untilK (l : List Kn) : Int × Int := firstOf (l.map fun k => k.2.2.2)
def badK (last : ByteArray) (k : Kn) : Bool := sLe k.1 last || (k.2.2.1 != 0 && !sEq k.2.1 ⟨#[]⟩)
def mayFrom : ByteArray → List Kn → Bool
  | _, [] => true
  | last, k :: l => !badK last k && mayFrom k.1 l
def mayK (l : List Kn) : Bool := mayFrom ⟨#[]⟩ l
def entryK (ttl neg : Int) (name row : ByteArray) (e now : Int) : Kn := if e = 0 then (name, row, 0, later now [ttl]) else (name, ⟨#[]⟩, e, later now [neg])
theorem oneK_len (l : List Kn) (x : Kn) : (oneK l x).length = match placeK l x.1 with | some _ => l.length | none => l.length + 1 := by
  unfold oneK
  cases placeK l x.1 with
  | some i => simp
  | none =>
    have : abovePl l x.1 ≤ l.length := List.findIdx_le_length
    simp; omega
theorem oneK_le (l : List Kn) (x : Kn) : (oneK l x).length ≤ l.length + 1 := by
  rw [oneK_len]
  cases placeK l x.1 <;> simp
theorem putK_snoc (l more : List Kn) (x : Kn) : putK l (more ++ [x]) = oneK (putK l more) x := by simp [putK]
theorem putK_le (more : List Kn) : ∀ l : List Kn, (putK l more).length ≤ l.length + more.length := by
  induction more with
  | nil => intro l; simp [putK]
  | cons y m ih =>
    intro l
    have h1 := ih (oneK l y)
    have h2 := oneK_le l y
    have h3 : putK l (y :: m) = putK (oneK l y) m := rfl
    rw [h3, List.length_cons]
    omega
theorem freshK_le (l : List Kn) (now : Int) : (freshK l now).length ≤ l.length := List.length_filter_le _ _
theorem freshK_snoc {l : List Kn} {k : Nat} {x : Kn} (now : Int) (hx : l[k]? = some x) : freshK (l.take (k + 1)) now = if freshB now x = true then freshK (l.take k) now ++ [x] else freshK (l.take k) now := by
  unfold freshK
  rw [take_succ_of hx, List.filter_append]
  cases h : freshB now x <;> simp [h]
theorem gone_fresh (now : Int) (k : Kn) : decide (0 < gone now k.2.2.2) = freshB now k := by
  unfold gone freshB
  rw [decide_eq_decide]
  omega
end Go.Proofs.Ytfahmfaakjnpcaa
