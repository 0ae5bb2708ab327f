/-
  Plain laws of addresses noted one behind the other. Conditions: none.
-/
import Derived.Test.YtgpijomnnnjgkaaScar6
namespace Go.Proofs.Ytgpijomnnnjgkaa
open Go.RowKit Go.Shelf

/-- What there is when the first i addresses were noted, each at its own place. -/
def onceAt (a : List Ad) : Nat → List Sc
  | 0 => []
  | i + 1 => match a[i]? with
    | some x => noteL (onceAt a i) i [x]
    | none => onceAt a i
theorem onceAt_succ {a : List Ad} {i : Nat} {x : Ad} (h : a[i]? = some x) : onceAt a (i + 1) = noteL (onceAt a i) i [x] := by
  simp [onceAt, h]
structure Once (a : List Ad) (i : Nat) (R : List Sc) : Prop where
  le : R.length ≤ 32
  sorted : R.Pairwise (fun s s' => s.2 < s'.2)
  uniq : R.Pairwise (fun s s' => s.1 ≠ s'.1)
  last : ∀ s ∈ R, ∃ t : Nat, s.2 = t ∧ t < i ∧ a[t]? = some s.1 ∧ ∀ k, t < k → k < i → a[k]? ≠ some s.1
  all : R.length < 32 → ∀ k x, k < i → a[k]? = some x → ∃ s ∈ R, s.1 = x
theorem note_eq (R : List Sc) (i : Int) (x : Ad) : noteL R i [x] = lastOnes (healL R [x] ++ [(x, i)]) := by simp [noteL, noteAll, noteStep]
theorem heal_all {R : List Sc} {x : Ad} (h : ∀ s ∈ R, s.1 ≠ x) : healL R [x] = R := by
  refine List.filter_eq_self.2 fun s hs => ?_
  simpa [healR] using h s hs
theorem heal_mem {R : List Sc} {x : Ad} {s : Sc} : s ∈ healL R [x] ↔ s ∈ R ∧ s.1 ≠ x := by
  unfold healL
  rw [List.mem_filter]
  simp [healR]
theorem heal_count (x : Ad) : ∀ (R : List Sc), R.Pairwise (fun s s' => s.1 ≠ s'.1) → R.length ≤ (healL R [x]).length + 1
  | [], _ => by simp
  | s :: R, h => by
    obtain ⟨h1, h2⟩ := List.pairwise_cons.1 h
    by_cases e : s.1 = x
    · have : healL (s :: R) [x] = R := by
        have h3 := heal_all (R := R) (x := x) fun s' hs' => by rw [← e]; exact fun h => h1 s' hs' h.symm
        unfold healL at *
        rw [List.filter_cons, if_neg (by simp [healR, e]), h3]
      rw [this]
      simp
    · have : healL (s :: R) [x] = s :: healL R [x] := by
        unfold healL
        rw [List.filter_cons, if_pos (by simp [healR, e])]
      rw [this]
      have := heal_count x R h2
      simp only [List.length_cons]
      omega
theorem Once.step {a : List Ad} {i : Nat} {R : List Sc} {x : Ad} (h : Once a i R) (hx : a[i]? = some x) : Once a (i + 1) (noteL R i [x]) := by
  rw [note_eq]
  have hsub : (lastOnes (healL R [x] ++ [(x, (i : Int))])).Sublist (healL R [x] ++ [(x, (i : Int))]) := List.drop_sublist _ _
  have hmem : ∀ s ∈ lastOnes (healL R [x] ++ [(x, (i : Int))]), (s ∈ R ∧ s.1 ≠ x) ∨ s = (x, (i : Int)) := by
    intro s hs
    rcases List.mem_append.1 (hsub.subset hs) with h1 | h1
    · exact .inl (heal_mem.1 h1)
    · exact .inr (by simpa using h1)
  have hhl := healL_le R [x]
  have hle := h.le
  refine ⟨?_, ?_, ?_, ?_, ?_⟩
  · rw [lastOnes_len]; simp only [List.length_append, List.length_cons, List.length_nil]; omega
  · refine List.Pairwise.sublist hsub (List.pairwise_append.2 ⟨List.Pairwise.sublist List.filter_sublist h.sorted, by simp, ?_⟩)
    intro s hs s' hs'
    obtain ⟨t, ht, ht2, _⟩ := h.last s (heal_mem.1 hs).1
    simp at hs'
    subst hs'
    simp only [ht]
    omega
  · refine List.Pairwise.sublist hsub (List.pairwise_append.2 ⟨List.Pairwise.sublist List.filter_sublist h.uniq, by simp, ?_⟩)
    intro s hs s' hs'
    simp at hs'
    subst hs'
    exact (heal_mem.1 hs).2
  · intro s hs
    rcases hmem s hs with ⟨h1, h2⟩ | h1
    · obtain ⟨t, e1, e2, e3, e4⟩ := h.last s h1
      refine ⟨t, e1, by omega, e3, fun k hk1 hk2 => ?_⟩
      rcases Nat.lt_or_ge k i with h3 | h3
      · exact e4 k hk1 h3
      · obtain rfl : k = i := by omega
        rw [hx]
        intro h4
        injection h4 with h4
        exact h2 h4.symm
    · subst h1
      exact ⟨i, rfl, by omega, hx, fun k hk1 hk2 => by omega⟩
  · intro hlt k y hk hy
    have hcnt := heal_count x R h.uniq
    rw [lastOnes_len] at hlt
    simp only [List.length_append, List.length_cons, List.length_nil] at hlt
    have hsame : lastOnes (healL R [x] ++ [(x, (i : Int))]) = healL R [x] ++ [(x, (i : Int))] := by
      unfold lastOnes
      rw [show (healL R [x] ++ [(x, (i : Int))]).length - 32 = 0 by simp only [List.length_append, List.length_cons, List.length_nil]; omega]
      rfl
    rw [hsame]
    by_cases e : y = x
    · exact ⟨(x, i), by simp, e.symm⟩
    · have hki : k < i := by
        rcases Nat.lt_or_ge k i with h3 | h3
        · exact h3
        · obtain rfl : k = i := by omega
          rw [hx] at hy
          injection hy with hy
          exact absurd hy.symm e
      obtain ⟨s, hs, hs2⟩ := h.all (by omega) k y hki hy
      exact ⟨s, List.mem_append_left _ (heal_mem.2 ⟨hs, by rw [hs2]; exact e⟩), hs2⟩
theorem onceAt_once (a : List Ad) : ∀ i, i ≤ a.length → Once a i (onceAt a i)
  | 0, _ => ⟨by simp [onceAt], List.Pairwise.nil, List.Pairwise.nil, by simp [onceAt], by intro _ k x hk; omega⟩
  | i + 1, h => by
    have hx : a[i]? = some (a[i]'(by omega)) := List.getElem?_eq_getElem (by omega)
    rw [onceAt_succ hx]
    exact (onceAt_once a i (by omega)).step hx
theorem note_last (R : List Sc) (i : Int) (x : Ad) : (noteL R i [x])[(noteL R i [x]).length - 1]? = some (x, i) := by
  rw [note_eq, ← List.getLast?_eq_getElem?]
  unfold lastOnes
  rw [List.getLast?_drop, if_neg (by simp only [List.length_append, List.length_cons, List.length_nil]; omega)]
  simp
theorem note_pos (R : List Sc) (i : Int) (x : Ad) : 1 ≤ (noteL R i [x]).length := by
  rw [note_eq, lastOnes_len]; simp only [List.length_append, List.length_cons, List.length_nil]; omega
theorem onceAt_le (a : List Ad) {i : Nat} (h : i ≤ a.length) : (onceAt a i).length ≤ 32 := (onceAt_once a i h).le
/-- The last place of an address among the first k: -1 of none. -/
def lastPlace (a : List Ad) (x : Ad) : Nat → Int
  | 0 => -1
  | k + 1 => if a[k]? = some x then (k : Int) else lastPlace a x k
theorem lastPlace_hit {a : List Ad} {x : Ad} {k : Nat} (h : a[k]? = some x) : lastPlace a x (k + 1) = k := by simp [lastPlace, h]
theorem lastPlace_miss {a : List Ad} {x y : Ad} {k : Nat} (h : a[k]? = some y) (hne : ¬ y = x) : lastPlace a x (k + 1) = lastPlace a x k := by
  rw [lastPlace, if_neg (by rw [h]; intro e; injection e with e; exact hne e)]
theorem lastPlace_of {a : List Ad} {x : Ad} {t : Nat} (ht : a[t]? = some x) : ∀ n, t < n → (∀ k, t < k → k < n → a[k]? ≠ some x) → lastPlace a x n = t
  | 0, h, _ => by omega
  | n + 1, h, hno => by
    by_cases e : t = n
    · subst e; exact lastPlace_hit ht
    · rw [lastPlace, if_neg (hno n (by omega) (by omega))]
      exact lastPlace_of ht n (by omega) fun k h1 h2 => hno k h1 (by omega)
theorem Once.place {a : List Ad} {R : List Sc} (h : Once a a.length R) {j : Nat} {s : Sc} (hs : R[j]? = some s) : lastPlace a s.1 a.length = s.2 := by
  obtain ⟨t, e1, e2, e3, e4⟩ := h.last s (List.mem_of_getElem? hs)
  rw [e1]
  exact lastPlace_of e3 _ e2 e4
theorem Once.lt {a : List Ad} {i : Nat} {R : List Sc} (h : Once a i R) {j : Nat} {s s' : Sc} (hj : 0 < j) (hs : R[j - 1]? = some s) (hs' : R[j]? = some s') : s.2 < s'.2 := by
  obtain ⟨h1, rfl⟩ := List.getElem?_eq_some_iff.1 hs
  obtain ⟨h2, rfl⟩ := List.getElem?_eq_some_iff.1 hs'
  exact List.pairwise_iff_getElem.1 h.sorted _ _ h1 h2 (by omega)
theorem Once.has {a : List Ad} {R : List Sc} (h : Once a a.length R) (hl : a.length ≤ 60) (hlt : R.length < 32) {k : Nat} {x : Ad} (hx : a[k]? = some x) : hasB R 100 a.length [x] = true := by
  obtain ⟨s, hs, hs2⟩ := h.all hlt k x (List.getElem?_eq_some_iff.1 hx).1 hx
  obtain ⟨t, e1, e2, _, _⟩ := h.last s hs
  unfold hasB
  simp only [List.all_cons, List.all_nil, Bool.and_true]
  refine List.any_eq_true.2 ⟨s, List.mem_filter.2 ⟨hs, ?_⟩, by simp [isAt, hs2]⟩
  unfold freshR oldB
  rw [e1, clamp_of (t := (t : Int)) (by omega) (by omega), clamp_of (t := (100 : Int)) (by omega) (by omega), clamp_of (t := (t : Int) + 100) (by omega) (by omega), clamp_of (t := (a.length : Int)) (by omega) (by omega)]
  simp
  omega
end Go.Proofs.Ytgpijomnnnjgkaa
