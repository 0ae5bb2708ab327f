/-
  Laws of kept names in order: what is put is got, others stay, the order of putting; what is fresh later is fresh now. Nothing here names a function of the program. Conditions: as each states.
-/
import Derived.Test.YtfahmfaakjnpcaaKnPlain
import Derived.Test.YtfahmfaakjnpcaaFirst
namespace Go.Proofs.Ytfahmfaakjnpcaa
set_option linter.unusedVariables false
set_option linter.unusedSimpArgs false
open Go.RowKit

def Srt (l : List Kn) : Prop := l.Pairwise fun a b => sLt a.1 b.1 = true
def okRowK (k : Kn) : Prop := ¬(k.2.2.1 ≠ 0 ∧ k.2.1 ≠ ⟨#[]⟩)
theorem badK_iff (last : ByteArray) (k : Kn) : badK last k = false ↔ sLt last k.1 = true ∧ okRowK k := by
  unfold badK okRowK
  rw [Bool.or_eq_false_iff, sLe_not, sEq_decide]
  simp only [Bool.not_eq_false', Bool.and_eq_false_iff, bne_eq_false_iff_eq, decide_eq_true_eq]
  constructor
  · rintro ⟨h1, h2⟩
    refine ⟨h1, fun ⟨a, b⟩ => ?_⟩
    rcases h2 with h2 | h2
    · exact a h2
    · exact b h2
  · rintro ⟨h1, h2⟩
    refine ⟨h1, ?_⟩
    by_cases h : k.2.2.1 = 0
    · exact .inl h
    · by_cases h' : k.2.1 = ⟨#[]⟩
      · exact .inr h'
      · exact absurd ⟨h, h'⟩ h2
theorem mayFrom_cons {last : ByteArray} {k : Kn} {l : List Kn} : mayFrom last (k :: l) = true ↔ (sLt last k.1 = true ∧ okRowK k) ∧ mayFrom k.1 l = true := by
  rw [mayFrom, Bool.and_eq_true, Bool.not_eq_true', badK_iff]
theorem mayFrom_srt : ∀ {l : List Kn} {last : ByteArray}, mayFrom last l = true → (∀ k ∈ l, sLt last k.1 = true) ∧ Srt l
  | [], _, _ => ⟨by simp, List.Pairwise.nil⟩
  | k :: l, last, h => by
    obtain ⟨⟨h1, _⟩, h2⟩ := mayFrom_cons.1 h
    obtain ⟨h3, h4⟩ := mayFrom_srt h2
    refine ⟨fun y hy => ?_, List.pairwise_cons.2 ⟨h3, h4⟩⟩
    rcases List.mem_cons.1 hy with rfl | hy
    · exact h1
    · exact sLt_trans h1 (h3 y hy)
def ins (x : Kn) : List Kn → List Kn
  | [] => [x]
  | k :: l => if sEq k.1 x.1 = true then x :: l else if sLt x.1 k.1 = true then x :: k :: l else k :: ins x l
theorem placeK_cons (k : Kn) (l : List Kn) (s : ByteArray) : placeK (k :: l) s = if sEq k.1 s = true then some 0 else (placeK l s).map (· + 1) := by
  simp [placeK, List.findIdx?_cons]
theorem placeK_none {l : List Kn} {s : ByteArray} (h : ∀ k ∈ l, k.1 ≠ s) : placeK l s = none := by
  unfold placeK
  rw [List.findIdx?_eq_none_iff]
  intro k hk
  rw [sEq_decide]
  simpa using h k hk
theorem sLt_ne {a b : ByteArray} (h : sLt a b = true) : a ≠ b := by
  rintro rfl
  rw [sLt_irrefl] at h
  cases h
theorem oneK_ins (x : Kn) : ∀ {l : List Kn}, Srt l → oneK l x = ins x l
  | [], _ => by simp [oneK, placeK, ins, abovePl]
  | k :: l, h => by
    obtain ⟨h1, h2⟩ := List.pairwise_cons.1 h
    have ih := oneK_ins x h2
    unfold oneK ins
    rw [placeK_cons]
    by_cases e : sEq k.1 x.1 = true
    · rw [if_pos e, if_pos e]; simp
    · rw [if_neg e, if_neg e]
      by_cases g : sLt x.1 k.1 = true
      · have hn : placeK l x.1 = none := placeK_none fun y hy => (sLt_ne (sLt_trans g (h1 y hy))).symm
        have ha : abovePl (k :: l) x.1 = 0 := by
          unfold abovePl
          rw [List.findIdx_cons, sLe_not, g]
          rfl
        rw [if_pos g, hn, Option.map_none, ha]
        rfl
      · have ha : abovePl (k :: l) x.1 = abovePl l x.1 + 1 := by
          unfold abovePl
          rw [List.findIdx_cons, sLe_not]
          simp [g]
        rw [if_neg g, ha, ← ih]
        unfold oneK
        cases placeK l x.1 with
        | none => simp
        | some i => simp
theorem ins_mem {x y : Kn} : ∀ {l : List Kn}, y ∈ ins x l → y = x ∨ y ∈ l
  | [], h => by simp [ins] at h; exact .inl h
  | k :: l, h => by
    unfold ins at h
    split at h
    · rcases List.mem_cons.1 h with h | h
      · exact .inl h
      · exact .inr (List.mem_cons_of_mem _ h)
    · split at h
      · rcases List.mem_cons.1 h with h | h
        · exact .inl h
        · exact .inr h
      · rcases List.mem_cons.1 h with rfl | h
        · exact .inr List.mem_cons_self
        · exact (ins_mem h).imp id (List.mem_cons_of_mem _)
theorem tri_of {a b : ByteArray} (h1 : ¬ sEq a b = true) (h2 : ¬ sLt b a = true) : sLt a b = true := by
  rcases sLt_tri a b with h | h | h
  · exact h
  · exact absurd ((sEq_iff _ _).2 h) h1
  · exact absurd h h2
theorem ins_srt (x : Kn) : ∀ {l : List Kn}, Srt l → Srt (ins x l)
  | [], _ => by unfold Srt ins; simp
  | k :: l, h => by
    obtain ⟨h1, h2⟩ := List.pairwise_cons.1 h
    unfold ins
    by_cases e : sEq k.1 x.1 = true
    · rw [if_pos e]
      have e' := (sEq_iff _ _).1 e
      exact List.pairwise_cons.2 ⟨fun y hy => e' ▸ h1 y hy, h2⟩
    · rw [if_neg e]
      by_cases g : sLt x.1 k.1 = true
      · rw [if_pos g]
        refine List.pairwise_cons.2 ⟨fun y hy => ?_, h⟩
        rcases List.mem_cons.1 hy with rfl | hy
        · exact g
        · exact sLt_trans g (h1 y hy)
      · rw [if_neg g]
        refine List.pairwise_cons.2 ⟨fun y hy => ?_, ins_srt x h2⟩
        rcases ins_mem hy with rfl | hy
        · exact tri_of e g
        · exact h1 y hy
theorem ins_may (x : Kn) (hx : okRowK x) : ∀ {l : List Kn} {last : ByteArray}, sLt last x.1 = true → mayFrom last l = true → mayFrom last (ins x l) = true
  | [], last, h, _ => by unfold ins; exact mayFrom_cons.2 ⟨⟨h, hx⟩, rfl⟩
  | k :: l, last, h, hm => by
    obtain ⟨⟨h1, h1'⟩, h2⟩ := mayFrom_cons.1 hm
    unfold ins
    by_cases e : sEq k.1 x.1 = true
    · rw [if_pos e]
      have e' := (sEq_iff _ _).1 e
      exact mayFrom_cons.2 ⟨⟨h, hx⟩, e' ▸ h2⟩
    · rw [if_neg e]
      by_cases g : sLt x.1 k.1 = true
      · rw [if_pos g]
        exact mayFrom_cons.2 ⟨⟨h, hx⟩, mayFrom_cons.2 ⟨⟨g, h1'⟩, h2⟩⟩
      · rw [if_neg g]
        exact mayFrom_cons.2 ⟨⟨h1, h1'⟩, ins_may x hx (tri_of e g) h2⟩
def findK (l : List Kn) (s : ByteArray) : Option Kn := l.find? fun k => sEq k.1 s
theorem placeK_find (l : List Kn) (s : ByteArray) : (match placeK l s with | none => none | some i => l[i]?) = findK l s := by
  induction l with
  | nil => rfl
  | cons k l ih =>
    rw [placeK_cons]
    unfold findK at ih ⊢
    rw [List.find?_cons]
    by_cases e : sEq k.1 s = true
    · rw [if_pos e, e]; rfl
    · rw [if_neg e]
      have e' : sEq k.1 s = false := by simpa using e
      rw [e', ← ih]
      cases placeK l s <;> rfl
theorem getK_find (l : List Kn) (s : ByteArray) (now : Int) : getK l s now = match findK l s with | none => none | some k => if freshB now k = true then some k else none := by
  rw [← placeK_find]
  unfold getK
  cases placeK l s <;> rfl
theorem findK_ins (x : Kn) : ∀ l : List Kn, findK (ins x l) x.1 = some x
  | [] => by simp [findK, ins, sEq_self]
  | k :: l => by
    unfold ins
    by_cases e : sEq k.1 x.1 = true
    · rw [if_pos e]; simp [findK, sEq_self]
    · rw [if_neg e]
      by_cases g : sLt x.1 k.1 = true
      · rw [if_pos g]; simp [findK, sEq_self]
      · rw [if_neg g]
        have := findK_ins x l
        unfold findK at this ⊢
        rw [List.find?_cons]
        simp only [Bool.not_eq_true] at e
        rw [e]
        exact this
theorem findK_other (x : Kn) (s : ByteArray) (hs : s ≠ x.1) : ∀ l : List Kn, findK (ins x l) s = findK l s
  | [] => by
    have : sEq x.1 s = false := by rw [sEq_decide]; simpa using fun e => hs e.symm
    simp [findK, ins, this]
  | k :: l => by
    have hx : sEq x.1 s = false := by rw [sEq_decide]; simpa using fun e => hs e.symm
    unfold ins
    by_cases e : sEq k.1 x.1 = true
    · rw [if_pos e]
      have e' := (sEq_iff _ _).1 e
      have hk : sEq k.1 s = false := by rw [e']; exact hx
      simp [findK, hx, hk]
    · rw [if_neg e]
      by_cases g : sLt x.1 k.1 = true
      · rw [if_pos g]; simp [findK, hx]
      · rw [if_neg g]
        have ih := findK_other x s hs l
        unfold findK at ih ⊢
        rw [List.find?_cons, List.find?_cons, ih]
theorem ins_ins (x : Kn) : ∀ l : List Kn, ins x (ins x l) = ins x l
  | [] => by simp [ins, sEq_self]
  | k :: l => by
    by_cases e : sEq k.1 x.1 = true
    · simp [ins, e, sEq_self]
    · by_cases g : sLt x.1 k.1 = true
      · simp [ins, e, g, sEq_self]
      · simp [ins, e, g, ins_ins x l]
theorem ins_comm (x y : Kn) (h : x.1 ≠ y.1) : ∀ l : List Kn, ins x (ins y l) = ins y (ins x l)
  | [] => by
    have e1 : sEq x.1 y.1 = false := by rw [sEq_decide]; simpa using h
    have e2 : sEq y.1 x.1 = false := by rw [sEq_decide]; simpa using fun e => h e.symm
    rcases sLt_tri x.1 y.1 with g | g | g
    · simp [ins, e1, e2, g, sLt_asymm g]
    · exact absurd g h
    · simp [ins, e1, e2, g, sLt_asymm g]
  | k :: l => by
    have e1 : sEq x.1 y.1 = false := by rw [sEq_decide]; simpa using h
    have e2 : sEq y.1 x.1 = false := by rw [sEq_decide]; simpa using fun e => h e.symm
    have ih := ins_comm x y h l
    by_cases kx : sEq k.1 x.1 = true
    · have kx' := (sEq_iff _ _).1 kx
      have ky : sEq k.1 y.1 = false := by rw [kx']; exact e1
      rcases sLt_tri x.1 y.1 with g | g | g
      · have g2 := sLt_asymm g
        rw [← kx'] at g2
        simp [ins, kx, ky, e1, e2, g2, sLt_asymm g]
      · exact absurd g h
      · have g2 := g
        rw [← kx'] at g2
        simp [ins, kx, ky, e1, e2, g, g2, sLt_asymm g, sEq_self]
    · by_cases ky : sEq k.1 y.1 = true
      · have ky' := (sEq_iff _ _).1 ky
        rcases sLt_tri x.1 y.1 with g | g | g
        · have g2 := g
          rw [← ky'] at g2
          simp [ins, kx, ky, e1, e2, g, g2, sLt_asymm g, sEq_self]
        · exact absurd g h
        · have g2 := sLt_asymm g
          rw [← ky'] at g2
          simp [ins, kx, ky, e1, e2, g2, sLt_asymm g]
      · have kx2 : sEq k.1 x.1 = false := by simpa using kx
        have ky2 : sEq k.1 y.1 = false := by simpa using ky
        by_cases gx : sLt x.1 k.1 = true
        · by_cases gy : sLt y.1 k.1 = true
          · rcases sLt_tri x.1 y.1 with g | g | g
            · simp [ins, kx2, ky2, e1, e2, gx, gy, g, sLt_asymm g]
            · exact absurd g h
            · simp [ins, kx2, ky2, e1, e2, gx, gy, g, sLt_asymm g]
          · have g := tri_of ky gy
            have g2 := sLt_asymm (sLt_trans gx g)
            simp [ins, kx2, ky2, e1, e2, gx, gy, g2]
        · by_cases gy : sLt y.1 k.1 = true
          · have g := tri_of kx gx
            have g2 := sLt_asymm (sLt_trans gy g)
            simp [ins, kx2, ky2, e1, e2, gx, gy, g2]
          · simp [ins, kx2, ky2, gx, gy, ih]
theorem clamp_mono {a b : Int} (h : a ≤ b) : clamp a ≤ clamp b := by unfold clamp; omega
theorem freshB_later {now later : Int} {k : Kn} (h : now ≤ later) (hf : freshB later k = true) : freshB now k = true := by
  unfold freshB at *
  have := clamp_mono h
  simp only [decide_eq_true_eq] at *
  omega
theorem freshK_freshK (l : List Kn) {now later : Int} (h : now ≤ later) : freshK (freshK l now) later = freshK l later := by
  unfold freshK
  rw [List.filter_filter]
  apply List.filter_congr
  intro k _
  cases hk : freshB later k with
  | true => simp [freshB_later h hk]
  | false => simp
theorem findK_of_mem : ∀ {l : List Kn} {k : Kn}, Srt l → k ∈ l → findK l k.1 = some k
  | [], _, _, h => by cases h
  | y :: l, k, hs, h => by
    obtain ⟨h1, h2⟩ := List.pairwise_cons.1 hs
    unfold findK
    rw [List.find?_cons]
    rcases List.mem_cons.1 h with rfl | h
    · rw [sEq_self]
    · have : sEq y.1 k.1 = false := by rw [sEq_decide]; simpa using sLt_ne (h1 k h)
      rw [this]
      exact findK_of_mem h2 h
theorem getK_fresh {l : List Kn} {now : Int} {k : Kn} (hs : Srt l) (hk : k ∈ freshK l now) : getK l k.1 now = some k := by
  have h := List.mem_filter.1 hk
  rw [getK_find, findK_of_mem hs h.1]
  simp [h.2]
theorem getK_one {l : List Kn} {x : Kn} {now : Int} (hs : Srt l) : getK (oneK l x) x.1 now = if freshB now x = true then some x else none := by
  rw [oneK_ins x hs, getK_find, findK_ins]
theorem getK_other {l : List Kn} {x : Kn} {s : ByteArray} {now : Int} (hs : Srt l) (h : s ≠ x.1) : getK (oneK l x) s now = getK l s now := by
  rw [oneK_ins x hs, getK_find, getK_find, findK_other x s h]
theorem mayK_one {l : List Kn} {x : Kn} (h : mayK l = true) (hx : mayK [x] = true) : mayK (oneK l x) = true := by
  obtain ⟨⟨h1, h2⟩, _⟩ := mayFrom_cons.1 hx
  rw [oneK_ins x (mayFrom_srt h).2]
  exact ins_may x h2 h1 h
theorem oneK_one {l : List Kn} {x : Kn} (hs : Srt l) : oneK (oneK l x) x = oneK l x := by
  rw [oneK_ins x hs, oneK_ins x (ins_srt x hs), ins_ins]
theorem oneK_comm {l : List Kn} {x y : Kn} (hs : Srt l) (h : x.1 ≠ y.1) : oneK (oneK l x) y = oneK (oneK l y) x := by
  rw [oneK_ins x hs, oneK_ins y hs, oneK_ins y (ins_srt x hs), oneK_ins x (ins_srt y hs), ins_comm y x fun e => h e.symm]
end Go.Proofs.Ytfahmfaakjnpcaa
