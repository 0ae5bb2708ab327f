/-
  How parts of an argument are opened: a field that is a slice of ints, a slice of structs. Conditions: none.
-/
import Derived.Test.YthjanhfjehccoaaOpenRecs
namespace Go.Proofs.Ythjanhfjehccoaa
set_option linter.unusedVariables false
set_option linter.unusedSimpArgs false
open Go.ChangeShapes Go.WideShapes Go.ChangeAt Go.RowKit Go.Deep

section
variable {H : Type} {enc : TypeId × Value → H} {P : Program} {W : World}
theorem dec_Ints {t e : TypeId} {fuel : Nat} {cs : List Value} {y : DataW H × List MemPlace} (ht : P.underlying t = some (.slice e)) (he : P.underlying e = some (.int .i64)) (hc : P.cellsOf e = 1)
    (hf : DataW.trod enc P W 0 (fun _ => true) true fuel t cs = some y) :
    ∃ A n c l, cs = [.slice A n c] ∧ Ints W W.heap.size A n l ∧ n ≤ 9223372036854775807 ∧ n ≤ c := by
  rcases open_ints ht he hc hf with ⟨rfl, _⟩ | ⟨x, n, c, zs, rfl, _, hl, hm, hz, _, hcell, hwz⟩
  · exact ⟨none, 0, 0, [], rfl, Ints.nil_ _ _ _, by omega, Nat.le_refl _⟩
  · have hz' : zs.length = c := by simpa using hz
    refine ⟨some x, n, c, zs.take n, rfl, ⟨by simp; omega, fun h0 _ => ?_⟩, by unfold maxLen at hm; omega, hl⟩
    have h1 := hcell 0 (by omega)
    have hs := World.cell?_spot h1
    have hb := block_lt_of_cell h1
    obtain ⟨b, off, spot⟩ := x
    simp only [addr_add_block] at hb
    obtain rfl : spot = none := by simpa [Addr.add] using hs
    refine ⟨b, off, rfl, hb, fun j u hu => ?_⟩
    rw [List.getElem?_map, Option.map_eq_some_iff] at hu
    obtain ⟨y, hy, rfl⟩ := hu
    rw [List.getElem?_take] at hy
    split at hy
    · have hj : j < zs.length := (List.getElem?_eq_some_iff.1 hy).1
      have := hcell j hj
      have hadd : (⟨b, off, none⟩ : Addr).add j = ⟨b, off + j, none⟩ := by unfold Addr.add; split <;> simp_all
      rw [hadd] at this
      rw [this]
      simp [List.getD, hy]
    · cases hy
theorem dec_Recs {α : Type} {encR : α → List Value} {k : Nat} {ok : α → Prop} (hk : ∀ x, (encR x).length = k) {t e : TypeId} {fuel : Nat} {cs : List Value} {y : DataW H × List MemPlace}
    (ht : P.underlying t = some (.slice e)) (hC : P.cellsOf e = k) (dec : ∀ (fuel : Nat) (cs : List Value) (y : DataW H × List MemPlace), DataW.trod enc P W 0 (fun _ => true) true fuel e cs = some y → ∃ x, cs = encR x ∧ ok x)
    (hf : DataW.trod enc P W 0 (fun _ => true) true fuel t cs = some y) :
    ∃ A n c xs, cs = [.slice A n c] ∧ Recs encR k W W.heap.size A n xs ∧ n ≤ 9223372036854775807 ∧ (∀ x ∈ xs, ok x) ∧ n ≤ c := by
  rcases open_slice ht hf with ⟨rfl, _⟩ | ⟨a, n, c, m, q, D, Pl, rfl, _, hl, hm, hmm, _, hall⟩
  · exact ⟨none, 0, 0, [], rfl, Recs.nil_ _ _ _, by omega, by simp, Nat.le_refl _⟩
  · simp at hmm
    rw [hmm] at hall
    obtain ⟨xs, hxl, hxs⟩ := list_of_all (p := fun i x => (∃ cs', W.cells? 0 (a.add (i * k)) k = some cs' ∧ cs' = encR x) ∧ ok x) n (fun i hi => by
      obtain ⟨cs', hc, ht'⟩ := hall i (by omega)
      rw [hC] at hc
      obtain ⟨x, hx, hokx⟩ := dec _ _ _ ht'
      exact ⟨x, ⟨cs', hc, hx⟩, hokx⟩)
    refine ⟨some a, n, c, xs, rfl, ⟨hxl, by rw [flatMap_len hk, hxl], fun h0 hk0 => ?_⟩, by unfold maxLen at hm; omega, fun x hx => ?_, hl⟩
    · have hcell : ∀ i q x, xs[i]? = some x → q < k → W.cell? (a.add (i * k + q)) = (encR x)[q]? := by
        intro i q x hx hq
        obtain ⟨⟨cs', hc, rfl⟩, _⟩ := hxs i x hx
        obtain ⟨_, _, hat⟩ := World.cells?_some hc
        rw [← addr_add_add]
        exact hat q hq
      obtain ⟨x0, hx0⟩ : ∃ x, xs[0]? = some x := ⟨_, List.getElem?_eq_getElem (by omega)⟩
      have hx00 : 0 < (encR x0).length := by rw [hk]; exact hk0
      have h1 : W.cell? (a.add (0 * k + 0)) = some (encR x0)[0] := by rw [hcell 0 0 x0 hx0 hk0]; exact List.getElem?_eq_getElem hx00
      have hs := World.cell?_spot h1
      have hb := block_lt_of_cell h1
      obtain ⟨b, off, spot⟩ := a
      simp only [addr_add_block] at hb
      obtain rfl : spot = none := by simpa [Addr.add] using hs
      refine ⟨b, off, rfl, hb, fun j u hu => ?_⟩
      obtain ⟨i, q', x, rfl, hq, hx, hu'⟩ := flatMap_at_inv hk xs j u hu
      have hadd : (⟨b, off, none⟩ : Addr).add (i * k + q') = ⟨b, off + (i * k + q'), none⟩ := by unfold Addr.add; split <;> simp_all
      rw [← hadd, hcell i q' x hx hq, hu']
    · obtain ⟨i, hi⟩ := List.getElem?_of_mem hx
      exact (hxs i x hi).2
end
end Go.Proofs.Ythjanhfjehccoaa
