/-
  Plain laws on histories: the beginning of one that keeps the pace keeps it; later by a tick makes no difference. No program in sight. Conditions are premises.
-/
import Derived.Test.YtcmgcbkhjdeinaaKeeps
namespace Go.Proofs.Ytcmgcbkhjdeinaa
open Go.RowKit

def keepsEnd (stagger : Int) : KS → Option Int → List Pc → Option (KS × Option Int)
  | s, p, [] => some (s, p)
  | s, p, x :: xs => if lateB p x.at_ = true then (match keepsStep stagger s x with | none => none | some s' => keepsEnd stagger s' (some x.at_) xs) else none
theorem keepsEnd_cons (stagger : Int) (s : KS) (p : Option Int) (x : Pc) (xs : List Pc) : keepsEnd stagger s p (x :: xs) = if lateB p x.at_ = true then (match keepsStep stagger s x with | none => none | some s' => keepsEnd stagger s' (some x.at_) xs) else none := rfl
theorem keepsRun_end (stagger : Int) : ∀ (l : List Pc) (s : KS) (p : Option Int), keepsRun stagger s p l = (keepsEnd stagger s p l).isSome
  | [], _, _ => rfl
  | x :: xs, s, p => by
    unfold keepsRun keepsEnd
    cases h : lateB p x.at_
    · simp
    · simp only [Bool.true_and, if_true]
      cases h2 : keepsStep stagger s x with
      | none => rfl
      | some s' => exact keepsRun_end stagger xs s' _
theorem keepsEnd_append (stagger : Int) (b : List Pc) : ∀ (l : List Pc) (s : KS) (p : Option Int), keepsEnd stagger s p (l ++ b) = (keepsEnd stagger s p l).bind fun q => keepsEnd stagger q.1 q.2 b
  | [], _, _ => rfl
  | x :: xs, s, p => by
    show keepsEnd stagger s p (x :: (xs ++ b)) = _
    rw [keepsEnd_cons, keepsEnd_cons]
    cases h : lateB p x.at_
    · simp
    · simp only [if_true]
      cases h2 : keepsStep stagger s x with
      | none => rfl
      | some s' => exact keepsEnd_append stagger b xs s' _
theorem keeps_end (stagger : Int) (l : List Pc) : keeps stagger l = (keepsEnd stagger ⟨[], []⟩ none l).isSome := keepsRun_end stagger l _ _
theorem keeps_take (stagger : Int) (l : List Pc) (c : Nat) (h : keeps stagger l = true) : keeps stagger (l.take c) = true := by
  rw [keeps_end] at h ⊢
  rw [← List.take_append_drop c l, keepsEnd_append] at h
  cases hq : keepsEnd stagger ⟨[], []⟩ none (l.take c) with
  | none => rw [hq] at h; cases h
  | some q => rfl
theorem starts_take (l : List Pc) (c : Nat) : starts (l.take c) = (starts l).take (starts (l.take c)).length := by
  have h : starts l = starts (l.take c) ++ starts (l.drop c) := by
    unfold starts
    rw [← List.map_append, ← List.filter_append, List.take_append_drop]
  rw [h, List.take_left]
theorem starts_take_le (l : List Pc) (c : Nat) : (starts (l.take c)).length ≤ (starts l).length := by
  have h : starts l = starts (l.take c) ++ starts (l.drop c) := by
    unfold starts
    rw [← List.map_append, ← List.filter_append, List.take_append_drop]
  rw [h, List.length_append]; omega
theorem starts_len_le (l : List Pc) : (starts l).length ≤ l.length := by unfold starts; rw [List.length_map]; exact List.length_filter_le _ _

def shiftPc (m : Int) (x : Pc) : Pc := ⟨x.fail, x.n, x.at_ + m⟩
theorem keepsRun_shift (stagger m : Int) (hm0 : 0 ≤ m) (hm1 : m ≤ 1000) (hs0 : 0 ≤ stagger) (hs1 : stagger ≤ 1048576) : ∀ (l : List Pc) (r bad : List Int) (p : Option Int),
    (∀ x ∈ l, 0 ≤ x.at_ ∧ x.at_ ≤ 1048576) → (∀ t ∈ r, 0 ≤ t ∧ t ≤ 1048576) → keepsRun stagger ⟨r.map (· + m), bad⟩ (p.map (· + m)) (l.map (shiftPc m)) = keepsRun stagger ⟨r, bad⟩ p l
  | [], _, _, _, _, _ => rfl
  | x :: xs, r, bad, p, hl, hr => by
    have hx := hl x (by simp)
    have hxs : ∀ y ∈ xs, 0 ≤ y.at_ ∧ y.at_ ≤ 1048576 := fun y hy => hl y (by simp [hy])
    show keepsRun stagger ⟨r.map (· + m), bad⟩ (p.map (· + m)) (shiftPc m x :: xs.map (shiftPc m)) = _
    unfold keepsRun
    have hlate : lateB (p.map (· + m)) (shiftPc m x).at_ = lateB p x.at_ := by
      cases p with
      | none => rfl
      | some q => exact decide_eq_decide.2 (by show q + m ≤ x.at_ + m ↔ q ≤ x.at_; omega)
    rw [hlate]
    congr 1
    have hstep : keepsStep stagger ⟨r.map (· + m), bad⟩ (shiftPc m x) = (keepsStep stagger ⟨r, bad⟩ x).map fun s => ⟨s.starts.map (· + m), s.bad⟩ := by
      unfold keepsStep shiftPc
      simp only [List.length_map]
      by_cases h1 : x.fail = true
      · rw [if_pos h1, if_pos h1]
        by_cases h2 : 0 ≤ x.n ∧ x.n < (r.length : Int) ∧ x.n ∉ bad
        · rw [if_pos h2, if_pos h2]; rfl
        · rw [if_neg h2, if_neg h2]; rfl
      · rw [if_neg h1, if_neg h1]
        by_cases h2 : x.n ≠ (r.length : Int)
        · rw [if_pos h2, if_pos h2]; rfl
        · rw [if_neg h2, if_neg h2]
          by_cases h3 : 0 < x.n
          · have hi : (x.n - 1).toNat < r.length := by omega
            have hg : (r.map (· + m)).getD (x.n - 1).toNat 0 = r.getD (x.n - 1).toNat 0 + m := by
              simp only [List.getD_eq_getElem?_getD, List.getElem?_map, List.getElem?_eq_getElem hi]; rfl
            have hb := hr _ (List.getElem_mem hi)
            have hgd : r.getD (x.n - 1).toNat 0 = r[(x.n - 1).toNat] := by
              simp only [List.getD_eq_getElem?_getD, List.getElem?_eq_getElem hi]; rfl
            have ho : oldB (r.getD (x.n - 1).toNat 0 + m) stagger (x.at_ + m) = oldB (r.getD (x.n - 1).toNat 0) stagger x.at_ := by
              rw [hgd]
              unfold oldB
              rw [clamp_of (t := r[(x.n - 1).toNat] + m) (by omega) (by omega), clamp_of (t := r[(x.n - 1).toNat]) (by omega) (by omega), clamp_of (t := stagger) (by omega) (by omega), clamp_of (t := x.at_ + m) (by omega) (by omega), clamp_of (t := x.at_) (by omega) (by omega),
                clamp_of (t := r[(x.n - 1).toNat] + m + stagger) (by omega) (by omega), clamp_of (t := r[(x.n - 1).toNat] + stagger) (by omega) (by omega)]
              exact decide_eq_decide.2 (by omega)
            rw [hg, ho]
            by_cases h4 : 0 < x.n ∧ x.n - 1 ∉ bad ∧ oldB (r.getD (x.n - 1).toNat 0) stagger x.at_ = false
            · rw [if_pos h4, if_pos h4]; rfl
            · rw [if_neg h4, if_neg h4]; simp
          · rw [if_neg (fun h => h3 h.1), if_neg (fun h => h3 h.1)]; simp
    rw [hstep]
    cases h5 : keepsStep stagger ⟨r, bad⟩ x with
    | none => rfl
    | some s' =>
      have hs' : ∀ t ∈ s'.starts, 0 ≤ t ∧ t ≤ 1048576 := by
        unfold keepsStep at h5
        split at h5
        · split at h5
          · injection h5 with h5; subst h5; exact hr
          · cases h5
        · split at h5
          · cases h5
          · split at h5
            · cases h5
            · injection h5 with h5
              subst h5
              intro t ht
              simp only [List.mem_append, List.mem_singleton] at ht
              rcases ht with ht | rfl
              · exact hr t ht
              · exact hx
      exact keepsRun_shift stagger m hm0 hm1 hs0 hs1 xs s'.starts s'.bad (some x.at_) hxs hs'
theorem keeps_shift (stagger m : Int) (hm0 : 0 ≤ m) (hm1 : m ≤ 1000) (hs0 : 0 ≤ stagger) (hs1 : stagger ≤ 1048576) (l : List Pc) (hl : ∀ x ∈ l, 0 ≤ x.at_ ∧ x.at_ ≤ 1048576) : keeps stagger (l.map (shiftPc m)) = keeps stagger l :=
  keepsRun_shift stagger m hm0 hm1 hs0 hs1 l [] [] none hl (by simp)
end Go.Proofs.Ytcmgcbkhjdeinaa
