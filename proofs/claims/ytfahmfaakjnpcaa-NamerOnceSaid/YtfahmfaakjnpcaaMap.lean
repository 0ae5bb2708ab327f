/-
  A map that the call itself made, told by a function from keys to values: what a look-up and a store make of it. Conditions: the key's type is one whose keys read as keys.
-/
import Derived.Test.YtfahmfaakjnpcaaBase
import Derived.Maps.Keyed
import Derived.Maps.OwnOps
import Derived.Maps.Own
namespace Go.Proofs.Ytfahmfaakjnpcaa
set_option linter.unusedVariables false
set_option linter.unusedSimpArgs false
open Go.RowKit
open Go.Maps (Keyed)

/-- Block b is a map that holds just what f says. -/
def MapIs (P : Program) (k : TypeId) (w : World) (b : Nat) (f : Value → Option Value) : Prop :=
  ∃ es clock, w.heap[b]? = some (.map es clock) ∧ (∀ x ∈ es.toList, ∃ l, keyOf P k x.key = some l) ∧
    (∀ (i j : Nat) (x y : MapEntry), es.toList[i]? = some x → es.toList[j]? = some y → x.key = y.key → i = j) ∧
    ∀ key v, f key = some v ↔ ∃ (i : Nat) (x : MapEntry), es.toList[i]? = some x ∧ x.key = key ∧ x.val = v

section
variable {P : Program} {k : TypeId} {w w' : World} {b : Nat} {f : Value → Option Value}

theorem MapIs.lt (h : MapIs P k w b f) : b < w.heap.size := by
  obtain ⟨es, clock, hb, _⟩ := h
  exact (Array.getElem?_eq_some_iff.1 hb).1
theorem MapIs.block (h : MapIs P k w b f) (hb : w'.heap[b]? = w.heap[b]?) : MapIs P k w' b f := by
  obtain ⟨es, clock, h1, rest⟩ := h
  exact ⟨es, clock, hb.trans h1, rest⟩
theorem MapIs.alloc (h : MapIs P k w b f) (o : Obj) : MapIs P k (w.alloc o) b f := h.block (Below.heap_alloc w o b h.lt)
theorem MapIs.drew (h : MapIs P k w b f) : MapIs P k w.drew b f := h
theorem MapIs.drewN (h : MapIs P k w b f) (m : Nat) : MapIs P k (w.drewN m) b f := h
theorem MapIs.below (h : MapIs P k w b f) (hb : Below w.heap.size w w') : MapIs P k w' b f := h.block (hb.block b h.lt)
theorem MapIs.grown (h : MapIs P k w b f) {row : Option Nat} (hg : w.grownBy w' row) (hne : some b ≠ row) : MapIs P k w' b f := h.block (hg.block b h.lt hne)
theorem MapIs.set (h : MapIs P k w b f) {p : Addr} (hp : b ≠ p.block) (u : Value) : MapIs P k (w.setCell p u) b f := h.block (Below.heap_setCell w p u b hp)
theorem MapIs.congr {g : Value → Option Value} (h : MapIs P k w b f) (hfg : ∀ x, f x = g x) : MapIs P k w b g := by
  obtain rfl : f = g := funext hfg
  exact h
theorem MapIs.new (w : World) : MapIs P k (w.alloc (.map #[] 0)) w.heap.size (fun _ => none) :=
  ⟨#[], 0, heap_alloc_new w _, by simp, by simp, by simp⟩

theorem run_lookup_MapIs {t e : TypeId} {z : Value} (K : Keyed P k) (ht : P.underlying t = some (.map k e)) (hz : (zeroValue e).run P w = .ok z w) (h : MapIs P k w b f) {key : Value} {kl : Lit} (hkey : keyOf P k key = some kl) (ok : Bool) :
    (Instr.lookup t (.map (some b)) key ok).run P w = .ok (if ok then .tuple #[(f key).getD z, .bool (f key).isSome] else (f key).getD z) w := by
  obtain ⟨es, clock, hb, hkeys, hone, hf⟩ := h
  rcases K.find w hkey es.toList hkeys with ⟨h1, h2⟩ | ⟨j, x, h1, h2, h3⟩
  · have hn : f key = none := by
      cases hv : f key with
      | none => rfl
      | some v =>
        obtain ⟨i, x, hx, hxk, _⟩ := (hf key v).1 hv
        exact absurd hxk (h2 x (List.mem_of_getElem? hx))
    rw [hn]
    simp [Instr.lookup, run_underlying ht, MapKept.run_getObj_map hb, K.check w _ hkey, h1, hz, Result.andThen]
  · have hv : f key = some x.val := (hf key x.val).2 ⟨j, x, h2, h3, rfl⟩
    rw [hv]
    simp [Instr.lookup, run_underlying ht, MapKept.run_getObj_map hb, K.check w _ hkey, h1, Result.andThen]

open Classical in
/-- What is stored. -/
noncomputable def putAt (f : Value → Option Value) (key val : Value) : Value → Option Value := fun x => if x = key then some val else f x
theorem putAt_same (f : Value → Option Value) (key val : Value) : putAt f key val key = some val := by simp [putAt]
theorem putAt_other (f : Value → Option Value) {key x : Value} (val : Value) (h : x ≠ key) : putAt f key val x = f x := by simp [putAt, h]

theorem run_store_MapIs {t e : TypeId} (K : Keyed P k) (ht : P.underlying t = some (.map k e)) (h : MapIs P k w b f) {key : Value} {kl : Lit} (hkey : keyOf P k key = some kl) (val : Value) :
    ∃ w', (Instr.mapUpdate t (.map (some b)) key val).run P w = .ok () w' ∧ MapIs P k w' b (putAt f key val) ∧ w.grownBy w' (some b) ∧ w'.heap.size = w.heap.size := by
  obtain ⟨es, clock, hb, hkeys, hone, hf⟩ := h
  have hbl : b < w.heap.size := (Array.getElem?_eq_some_iff.1 hb).1
  have hgr : ∀ o, w.grownBy { w with heap := w.heap.setIfInBounds b o } (some b) := fun o => ⟨rfl, rfl, rfl, by simp, fun q _ hne => by
    simp only [Array.getElem?_setIfInBounds]
    rw [if_neg (by intro e; exact hne (by rw [e]))]⟩
  have hsame : ∀ o, ({ w with heap := w.heap.setIfInBounds b o } : World).heap[b]? = some o := fun o => by simp [hbl]
  rcases K.find w hkey es.toList hkeys with ⟨h1, h2⟩ | ⟨j, e0, h1, h2, h3⟩
  · refine ⟨{ w with heap := w.heap.setIfInBounds b (.map (es.push ⟨key, val, clock⟩) (clock + 1)) }, ?_, ⟨es.push ⟨key, val, clock⟩, clock + 1, hsame _, ?_, ?_, ?_⟩, hgr _, by simp⟩
    · simp [Instr.mapUpdate, run_underlying ht, MapKept.run_getObj_map hb, K.check w false hkey, h1, MapKept.run_setObj_map _ hb, Result.andThen]
    · intro x hx
      simp only [Array.toList_push, List.mem_append, List.mem_singleton] at hx
      rcases hx with hx | rfl
      · exact hkeys x hx
      · exact ⟨kl, hkey⟩
    · intro i j x y hx hy hxy
      simp only [Array.toList_push] at hx hy
      rw [List.getElem?_append] at hx hy
      split at hx <;> split at hy
      · exact hone i j x y hx hy hxy
      · rename_i hj
        have hm := List.mem_of_getElem? hx
        have : y = ⟨key, val, clock⟩ := by
          have := List.mem_of_getElem? hy
          simpa using this
        subst this
        exact absurd hxy (h2 x hm)
      · have hm := List.mem_of_getElem? hy
        have : x = ⟨key, val, clock⟩ := by
          have := List.mem_of_getElem? hx
          simpa using this
        subst this
        exact absurd hxy.symm (h2 y hm)
      · have h1' := (List.getElem?_eq_some_iff.1 hx).1
        have h2' := (List.getElem?_eq_some_iff.1 hy).1
        simp only [List.length_singleton] at h1' h2'
        omega
    · intro key' v
      simp only [Array.toList_push]
      by_cases hk : key' = key
      · subst hk
        rw [putAt_same]
        constructor
        · intro h
          injection h with h
          exact ⟨es.toList.length, ⟨key', val, clock⟩, by simp, rfl, h⟩
        · rintro ⟨i, x, hx, hxk, hxv⟩
          have := List.mem_of_getElem? hx
          simp only [List.mem_append, List.mem_singleton] at this
          rcases this with hm | rfl
          · exact absurd hxk (h2 x hm)
          · rw [← hxv]
      · rw [putAt_other f val hk, hf key' v]
        constructor
        · rintro ⟨i, x, hx, hxk, hxv⟩
          exact ⟨i, x, by rw [List.getElem?_append_left (List.getElem?_eq_some_iff.1 hx).1]; exact hx, hxk, hxv⟩
        · rintro ⟨i, x, hx, hxk, hxv⟩
          have := List.mem_of_getElem? hx
          simp only [List.mem_append, List.mem_singleton] at this
          rcases this with hm | rfl
          · obtain ⟨i', hi'⟩ := List.getElem?_of_mem hm
            exact ⟨i', x, hi', hxk, hxv⟩
          · exact absurd hxk.symm hk
  · have hj : es[j]? = some e0 := by simpa using h2
    have hjl : j < es.toList.length := (List.getElem?_eq_some_iff.1 h2).1
    have hmod : (es.modify j (fun e' => { e' with key := key, val := val })).toList = es.toList.set j { e0 with key := key, val := val } := by
      rw [Array.toList_modify, ChangeMaps.modify_eq_set _ _ _ _ h2]
    refine ⟨{ w with heap := w.heap.setIfInBounds b (.map (es.modify j (fun e' => { e' with key := key, val := val })) clock) }, ?_, ⟨_, clock, hsame _, ?_, ?_, ?_⟩, hgr _, by simp⟩
    · simp [Instr.mapUpdate, run_underlying ht, MapKept.run_getObj_map hb, K.check w false hkey, h1, hj, h3, K.stays w hkey, MapKept.run_setObj_map _ hb, Result.andThen]
    · intro x hx
      rw [hmod] at hx
      obtain ⟨i, hi⟩ := List.getElem?_of_mem hx
      rw [List.getElem?_set] at hi
      split at hi
      · injection hi with hi
        subst hi
        exact ⟨kl, hkey⟩
      · exact hkeys x (List.mem_of_getElem? hi)
    · intro i i' x y hx hy hxy
      rw [hmod, List.getElem?_set] at hx hy
      split at hx <;> split at hy
      · omega
      · rename_i he hne
        subst he
        injection hx with hx
        subst hx
        exact hone j i' e0 y h2 hy (by rw [h3]; exact hxy)
      · rename_i hne he
        subst he
        injection hy with hy
        subst hy
        exact hone i j x e0 hx h2 (by rw [h3]; exact hxy)
      · exact hone i i' x y hx hy hxy
    · intro key' v
      rw [hmod]
      by_cases hk : key' = key
      · subst hk
        rw [putAt_same]
        constructor
        · intro h
          injection h with h
          exact ⟨j, { e0 with key := key', val := val }, by rw [List.getElem?_set_self hjl], rfl, h⟩
        · rintro ⟨i, x, hx, hxk, hxv⟩
          rw [List.getElem?_set] at hx
          split at hx
          · injection hx with hx
            subst hx
            rw [← hxv]
          · rename_i hne
            exact absurd (hone j i e0 x h2 hx (by rw [h3, hxk])) hne
      · rw [putAt_other f val hk, hf key' v]
        constructor
        · rintro ⟨i, x, hx, hxk, hxv⟩
          have hne : j ≠ i := by
            rintro rfl
            rw [h2] at hx
            injection hx with hx
            subst hx
            exact hk (by rw [← hxk, h3])
          exact ⟨i, x, by rw [List.getElem?_set_ne hne]; exact hx, hxk, hxv⟩
        · rintro ⟨i, x, hx, hxk, hxv⟩
          rw [List.getElem?_set] at hx
          split at hx
          · injection hx with hx
            subst hx
            exact absurd hxk.symm hk
          · exact ⟨i, x, hx, hxk, hxv⟩
end
end Go.Proofs.Ytfahmfaakjnpcaa
