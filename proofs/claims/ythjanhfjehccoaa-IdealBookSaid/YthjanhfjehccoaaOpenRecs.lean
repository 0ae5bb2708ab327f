/-
  How an argument that is a slice of structs is opened: it reads as a list of records. Conditions: none.
-/
import Derived.Test.YthjanhfjehccoaaStruct
import Derived.Test.YthjanhfjehccoaaOpen
import Derived.Deep.Slices
namespace Go.Proofs.Ythjanhfjehccoaa
set_option linter.unusedVariables false
set_option linter.unusedSimpArgs false
open Go.ChangeShapes Go.WideShapes Go.ChangeAt Go.RowKit Go.Deep

section
variable {H : Type} {enc : TypeId × Value → H} {P : Program} {W : World}

theorem list_of_all {α : Type} {p : Nat → α → Prop} : ∀ (n : Nat), (∀ i, i < n → ∃ x, p i x) → ∃ xs : List α, xs.length = n ∧ ∀ i x, xs[i]? = some x → p i x
  | 0, _ => ⟨[], rfl, by simp⟩
  | n + 1, h => by
    obtain ⟨xs, hl, hp⟩ := list_of_all n (fun i hi => h i (by omega))
    obtain ⟨x, hx⟩ := h n (by omega)
    refine ⟨xs ++ [x], by simp [hl], fun i y hy => ?_⟩
    rw [List.getElem?_append] at hy
    split at hy
    · exact hp i y hy
    · have : i - xs.length = 0 := by
        have := (List.getElem?_eq_some_iff.1 hy).1
        simp at this
        omega
      rw [this] at hy
      simp at hy
      subst hy
      have : i = n := by omega
      subst this
      exact hx

theorem flatMap_at_inv {α β : Type} {f : α → List β} {k : Nat} (hk : ∀ x, (f x).length = k) : ∀ (xs : List α) (j : Nat) (u : β), (xs.flatMap f)[j]? = some u → ∃ i q x, j = i * k + q ∧ q < k ∧ xs[i]? = some x ∧ (f x)[q]? = some u
  | [], j, u, h => by simp at h
  | x :: xs, j, u, h => by
    rw [List.flatMap_cons, List.getElem?_append] at h
    split at h
    · rename_i hj
      exact ⟨0, j, x, by omega, by rw [hk] at hj; exact hj, by simp, h⟩
    · rename_i hj
      rw [hk] at h hj
      obtain ⟨i, q, y, hi, hq, hy, hu⟩ := flatMap_at_inv hk xs (j - k) u h
      exact ⟨i + 1, q, y, by rw [Nat.add_mul]; omega, hq, by simpa using hy, hu⟩

theorem open_Recs {α : Type} {encR : α → List Value} {k : Nat} {ok : α → Prop} (hk : ∀ x, (encR x).length = k) {t e b0 : TypeId} {r : Reach} {v : Value} {d : DataW H} {p : List MemPlace}
    (ht : P.underlying t = some (.slice e)) (hC : P.cellsOf e = k) (dec : ∀ (fuel : Nat) (cs : List Value) (y : DataW H × List MemPlace), DataW.trod enc P W 0 (fun _ => true) true fuel e cs = some y → ∃ x, cs = encR x ∧ ok x)
    (hv : Value.okWide P W r b0 t v) (h : DataW.Trod enc P W 0 (fun _ => true) true t v d p) :
    ∃ A n c xs, v = .slice A n c ∧ Recs encR k W W.heap.size A n xs ∧ n ≤ 9223372036854775807 ∧ (∀ x ∈ xs, ok x) ∧ n ≤ c := by
  obtain ⟨A, n, c, rfl⟩ := okWide_slice ht hv
  obtain ⟨fuel, hf⟩ := h
  rcases open_slice ht hf with ⟨hcs, _⟩ | ⟨a, len, cap, m, q, D, Pl, hcs, _, hl, hm, hmm, _, hall⟩
  · simp [Value.cells] at hcs
    obtain ⟨rfl, rfl, rfl⟩ := hcs
    exact ⟨none, 0, 0, [], rfl, Recs.nil_ _ _ _, by omega, by simp, Nat.le_refl _⟩
  · simp [Value.cells] at hcs
    obtain ⟨rfl, rfl, rfl⟩ := hcs
    simp at hmm
    rw [hmm] at hall
    obtain ⟨xs, hxl, hxs⟩ := list_of_all (p := fun i x => (∃ cs', W.cells? 0 (a.add (i * k)) k = some cs' ∧ cs' = encR x) ∧ ok x) n (fun i hi => by
      obtain ⟨cs', hc, ht'⟩ := hall i (by omega)
      rw [hC] at hc
      obtain ⟨x, hx, hokx⟩ := dec _ _ _ ht'
      exact ⟨x, ⟨cs', hc, hx⟩, hokx⟩)
    refine ⟨some a, n, c, xs, rfl, ⟨hxl, by rw [flatMap_len hk, hxl], fun h0 hk0 => ?_⟩, by unfold maxLen at hm; omega, fun x hx => ?_, hl⟩
    · have hcell : ∀ i q x, xs[i]? = some x → q < k → W.cell? (a.add (i * k + q)) = (encR x)[q]? := by
        intro i q x hx hq
        obtain ⟨⟨cs', hc, rfl⟩, _⟩ := hxs i x hx
        obtain ⟨_, _, hat⟩ := World.cells?_some hc
        rw [← addr_add_add]
        exact hat q hq
      obtain ⟨x0, hx0⟩ : ∃ x, xs[0]? = some x := ⟨_, List.getElem?_eq_getElem (by omega)⟩
      have hx00 : 0 < (encR x0).length := by rw [hk]; exact hk0
      have h1 : W.cell? (a.add (0 * k + 0)) = some (encR x0)[0] := by rw [hcell 0 0 x0 hx0 hk0]; exact List.getElem?_eq_getElem hx00
      have hs := World.cell?_spot h1
      have hb := block_lt_of_cell h1
      obtain ⟨b, off, spot⟩ := a
      simp only [addr_add_block] at hb
      obtain rfl : spot = none := by simpa [Addr.add] using hs
      refine ⟨b, off, rfl, hb, fun j u hu => ?_⟩
      obtain ⟨i, q', x, rfl, hq, hx, hu'⟩ := flatMap_at_inv hk xs j u hu
      have hadd : (⟨b, off, none⟩ : Addr).add (i * k + q') = ⟨b, off + (i * k + q'), none⟩ := by unfold Addr.add; split <;> simp_all
      rw [← hadd, hcell i q' x hx hq, hu']
    · obtain ⟨i, hi⟩ := List.getElem?_of_mem hx
      exact (hxs i x hi).2
end
end Go.Proofs.Ythjanhfjehccoaa
