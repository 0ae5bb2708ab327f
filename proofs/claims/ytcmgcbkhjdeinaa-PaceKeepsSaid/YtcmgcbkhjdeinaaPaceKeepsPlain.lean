/-
  Plain laws for the statement PaceKeeps: what a start or a failure does to a history that keeps the pace. No program in sight. Conditions are premises.
-/
import Derived.Test.YtcmgcbkhjdeinaaPaceEnd
import Derived.Test.YtcmgcbkhjdeinaaPace2
namespace Go.Proofs.Ytcmgcbkhjdeinaa
open Go.RowKit

/-- The history r keeps the pace; so many attempts started, the last one at since; bl tells which failed; nothing is later than nw. -/
structure KM (stagger total : Int) (r : List Pc) (nw since : Int) (st : Nat) (bl : List Bool) : Prop where
  len8 : bl.length = 8
  st8 : (st : Int) ≤ total
  nw0 : 0 ≤ nw
  since0 : since ≤ nw
  lens : (starts r).length = st
  last : 0 < st → (starts r)[st - 1]? = some since
  run : ∃ bd pr, keepsEnd stagger ⟨[], []⟩ none r = some (⟨starts r, bd⟩, pr) ∧ (∀ t, pr = some t → t ≤ nw) ∧ ∀ i : Nat, i < 8 → (bl.getD i false = true ↔ (i : Int) ∈ bd)

theorem KM.init (stagger total : Int) (h : 0 ≤ total) : KM stagger total [] 0 0 0 (List.replicate 8 false) :=
  ⟨rfl, by simpa using h, by omega, by omega, rfl, fun h => absurd h (by omega), ⟨[], none, rfl, by simp, fun i hi => by
    have : i = 0 ∨ i = 1 ∨ i = 2 ∨ i = 3 ∨ i = 4 ∨ i = 5 ∨ i = 6 ∨ i = 7 := by omega
    rcases this with rfl | rfl | rfl | rfl | rfl | rfl | rfl | rfl <;> simp⟩⟩
theorem KM.wait {stagger total : Int} {r : List Pc} {nw since : Int} {st : Nat} {bl : List Bool} (h : KM stagger total r nw since st bl) {m : Int} (hm : nw ≤ m) : KM stagger total r m since st bl := by
  obtain ⟨h1, h2, h3, h4, h5, h6, bd, pr, h7, h8, h9⟩ := h
  exact ⟨h1, h2, by omega, by omega, h5, h6, bd, pr, h7, fun t ht => by have := h8 t ht; omega, h9⟩
theorem KM.keeps {stagger total : Int} {r : List Pc} {nw since : Int} {st : Nat} {bl : List Bool} (h : KM stagger total r nw since st bl) : keeps stagger r = true := by
  obtain ⟨bd, pr, h7, _⟩ := h.run
  rw [keeps_end, h7]; rfl
theorem KM.late {pr : Option Int} {nw : Int} (h : ∀ t, pr = some t → t ≤ nw) : lateB pr nw = true := by
  cases pr with
  | none => rfl
  | some t => simpa [lateB] using h t rfl
theorem KM.fail {stagger total : Int} {r : List Pc} {nw since : Int} {st : Nat} {bl : List Bool} (h : KM stagger total r nw since st bl) {N : Int} (h0 : 0 ≤ N) (h1 : N < st) (h8 : total ≤ 8) (hb : bl.getD N.toNat false = false) :
    KM stagger total (r ++ [⟨true, N, nw⟩]) nw since st (bl.set N.toNat true) := by
  have hlt8 : (st : Int) ≤ 8 := by have := h.st8; omega
  obtain ⟨g1, g2, g3, g4, g5, g6, bd, pr, g7, g8, g9⟩ := h
  have hs : starts (r ++ [⟨true, N, nw⟩]) = starts r := by rw [starts_snoc]; rfl
  have hn : N ∉ bd := by
    intro hm
    have := (g9 N.toNat (by omega)).2 (by rw [Int.toNat_of_nonneg h0]; exact hm)
    rw [hb] at this
    cases this
  refine ⟨by simpa using g1, g2, g3, g4, by rw [hs]; exact g5, by rw [hs]; exact g6, bd ++ [N], some nw, ?_, by simp, fun i hi => ?_⟩
  · rw [keepsEnd_append, g7]
    show keepsEnd stagger ⟨starts r, bd⟩ pr [⟨true, N, nw⟩] = _
    rw [keepsEnd_cons, if_pos (KM.late g8), hs]
    have : keepsStep stagger ⟨starts r, bd⟩ ⟨true, N, nw⟩ = some ⟨starts r, bd ++ [N]⟩ := by
      unfold keepsStep
      rw [if_pos rfl, if_pos ⟨h0, by show N < ((starts r).length : Int); rw [g5]; exact h1, hn⟩]
    rw [this]; rfl
  · have e : (bl.set N.toNat true).getD i false = if N.toNat = i then true else bl.getD i false := by
      simp only [List.getD_eq_getElem?_getD, List.getElem?_set]
      split
      · rename_i hh
        rw [if_pos (by omega)]; rfl
      · rfl
    rw [e]
    split
    · rename_i hh
      subst hh
      simp [Int.toNat_of_nonneg h0]
    · rename_i hh
      rw [g9 i hi]
      simp only [List.mem_append, List.mem_singleton]
      constructor
      · exact Or.inl
      · rintro (h | h)
        · exact h
        · exact absurd (by rw [← h]; simp) hh
theorem KM.start {stagger total : Int} {r : List Pc} {nw since : Int} {st : Nat} {bl : List Bool} (h : KM stagger total r nw since st bl) (h8 : total ≤ 8)
    (hmay : mayB st total (decide (0 < st) && bl.getD (st - 1) false) since stagger nw = true) : KM stagger total (r ++ [⟨false, st, nw⟩]) nw nw (st + 1) bl := by
  have hlt8 : (st : Int) ≤ 8 := by have := h.st8; omega
  obtain ⟨g1, g2, g3, g4, g5, g6, bd, pr, g7, g8, g9⟩ := h
  have hs : starts (r ++ [⟨false, st, nw⟩]) = starts r ++ [nw] := by rw [starts_snoc]; rfl
  simp only [mayB, Bool.and_eq_true, decide_eq_true_eq, Bool.or_eq_true] at hmay
  obtain ⟨m1, m2⟩ := hmay
  refine ⟨g1, by omega, g3, by omega, by rw [hs, List.length_append, g5]; rfl, fun _ => by rw [hs, Nat.add_sub_cancel, ← g5]; simp, bd, some nw, ?_, by simp, g9⟩
  rw [keepsEnd_append, g7]
  show keepsEnd stagger ⟨starts r, bd⟩ pr [⟨false, (st : Int), nw⟩] = _
  rw [keepsEnd_cons, if_pos (KM.late g8), hs]
  have : keepsStep stagger ⟨starts r, bd⟩ ⟨false, (st : Int), nw⟩ = some ⟨starts r ++ [nw], bd⟩ := by
    unfold keepsStep
    rw [if_neg (by simp), if_neg (by simp [g5]), if_neg ?_]
    rintro ⟨q1, q2, q3⟩
    simp only at q1 q2 q3
    have hst : 0 < st := by omega
    rcases m2 with (m2 | m2) | m2
    · omega
    · have hx := m2.2
      have : ((st - 1 : Nat) : Int) ∈ bd := (g9 (st - 1) (by omega)).1 hx
      exact q2 (by rw [show (st : Int) - 1 = ((st - 1 : Nat) : Int) from by omega]; exact this)
    · have e : (starts r).getD ((st : Int) - 1).toNat 0 = since := by
        rw [show ((st : Int) - 1).toNat = st - 1 from by omega, List.getD_eq_getElem?_getD, g6 hst]; rfl
      rw [e, m2] at q3
      cases q3
  rw [this]; rfl
theorem may_later {started total : Int} {f : Bool} {since stagger now : Int} (h : mayB started total f since stagger now = true) (h0 : 0 ≤ now) (h1 : now ≤ 100000) : mayB started total f since stagger (now + 1) = true ∧ started < total := by
  simp only [mayB, Bool.and_eq_true, decide_eq_true_eq, Bool.or_eq_true] at h ⊢
  refine ⟨⟨h.1, ?_⟩, h.1⟩
  rcases h.2 with (h2 | h2) | h2
  · exact .inl (.inl h2)
  · exact .inl (.inr h2)
  · right
    unfold oldB at h2 ⊢
    simp only [decide_eq_true_eq] at h2 ⊢
    rw [clamp_of (t := now) (by omega) (by omega)] at h2
    rw [clamp_of (t := now + 1) (by omega) (by omega)]
    omega
end Go.Proofs.Ytcmgcbkhjdeinaa
