/-
  What CacheFresh says of lists: the last end, the first end. Nothing here names a function of the program. Conditions: as each states.
-/
import Derived.Test.YtpdbibejocajhaaKnLaws
namespace Go.Proofs.Ytpdbibejocajhaa
set_option linter.unusedVariables false
set_option linter.unusedSimpArgs false
open Go.RowKit

def lastK (l : List Kn) : Int := l.foldl (fun m x => max m (clamp x.2.2.2)) 0
theorem lastK_snoc (l : List Kn) (x : Kn) : lastK (l ++ [x]) = max (lastK l) (clamp x.2.2.2) := by simp [lastK]
theorem lastK_take {l : List Kn} {k : Nat} {x : Kn} (hx : l[k]? = some x) : lastK (l.take (k + 1)) = max (lastK (l.take k)) (clamp x.2.2.2) := by rw [take_succ_of hx, lastK_snoc]
theorem foldl_max (l : List Kn) : ∀ m : Int, 0 ≤ m → m ≤ 1073741824 → let r := l.foldl (fun m x => max m (clamp x.2.2.2)) m; 0 ≤ r ∧ r ≤ 1073741824 ∧ m ≤ r ∧ ∀ x ∈ l, clamp x.2.2.2 ≤ r := by
  induction l with
  | nil => intro m h0 h1; simp [h0, h1]
  | cons y l ih =>
    intro m h0 h1
    have hb := clamp_bd y.2.2.2
    obtain ⟨a, b, c, d⟩ := ih (max m (clamp y.2.2.2)) (by omega) (by omega)
    refine ⟨a, b, by simp only [List.foldl_cons]; omega, fun x hx => ?_⟩
    simp only [List.foldl_cons]
    rcases List.mem_cons.1 hx with rfl | hx
    · omega
    · exact d x hx
theorem lastK_bd (l : List Kn) : 0 ≤ lastK l ∧ lastK l ≤ 1073741824 := by
  obtain ⟨a, b, _, _⟩ := foldl_max l 0 (by omega) (by omega)
  exact ⟨a, b⟩
theorem fresh_last (l : List Kn) : freshK l (lastK l) = [] := by
  obtain ⟨a, b, _, d⟩ := foldl_max l 0 (by omega) (by omega)
  unfold freshK
  rw [List.filter_eq_nil_iff]
  intro x hx
  unfold freshB
  have h1 := d x hx
  have h2 : clamp (lastK l) = lastK l := clamp_of a b
  have h3 : lastK l = l.foldl (fun m x => max m (clamp x.2.2.2)) 0 := rfl
  simp only [decide_eq_true_eq]
  omega
structure UntilIs (l : List Kn) (a t : Int) : Prop where
  lo : 0 ≤ a
  hi : a < l.length
  t0 : 0 ≤ t
  t1 : t ≤ 1073741824
  all : t ≠ 0 → (freshK l (t - 1)).length = l.length
  less : (freshK l t).length < l.length
theorem until_is {l : List Kn} (h : l ≠ []) : UntilIs l (untilK l).1 (untilK l).2 := by
  have hl : 0 < l.length := List.length_pos_iff.2 h
  obtain ⟨L, hL⟩ : ∃ L, L = l.map fun k => k.2.2.2 := ⟨_, rfl⟩
  have hLl : L.length = l.length := by rw [hL, List.length_map]
  obtain ⟨p, z, hp, hz, hs, hall⟩ := firstOf_spec L (L.length - 1) (by omega)
  rw [show L.length - 1 + 1 = L.length by omega] at hp hs hall
  rw [List.take_of_length_le (by omega)] at hs
  have hu : untilK l = ((p : Int), clamp z) := by unfold untilK; rw [← hL]; exact hs
  have hb := clamp_bd z
  rw [hL, List.getElem?_map] at hz
  obtain ⟨x, hx, hxz⟩ := Option.map_eq_some_iff.1 hz
  have hmin : ∀ y ∈ l, clamp z ≤ clamp y.2.2.2 := by
    intro y hy
    obtain ⟨i, hi⟩ := List.getElem?_of_mem hy
    have hil := (List.getElem?_eq_some_iff.1 hi).1
    exact (hall i y.2.2.2 (by omega) (by rw [hL, List.getElem?_map, hi]; rfl)).1
  rw [hu]
  refine ⟨by show (0 : Int) ≤ (p : Int); omega, by show (p : Int) < _; omega, hb.1, hb.2, fun h0 => ?_, ?_⟩
  · show (freshK l (clamp z - 1)).length = l.length
    have h0' : clamp z ≠ 0 := h0
    unfold freshK
    rw [List.filter_eq_self.2]
    intro y hy
    have h1 := hmin y hy
    have h2 : clamp (clamp z - 1) = clamp z - 1 := clamp_of (by omega) (by omega)
    unfold freshB
    simp only [decide_eq_true_eq]
    omega
  · show (freshK l (clamp z)).length < l.length
    unfold freshK
    rw [List.length_filter_lt_length_iff_exists]
    refine ⟨x, List.mem_of_getElem? hx, ?_⟩
    have h2 : clamp (clamp z) = clamp z := clamp_of hb.1 hb.2
    unfold freshB
    rw [hxz]
    simp only [decide_eq_true_eq]
    omega
theorem until_nil : untilK [] = (-1, 0) := rfl
theorem fresh_mono_len (l : List Kn) {now later : Int} (h : now ≤ later) : (freshK l later).length ≤ (freshK l now).length := by
  rw [← freshK_freshK l h]
  exact freshK_le _ _
end Go.Proofs.Ytpdbibejocajhaa
