/-
  Two names are looked up apart: the plain law. Nothing here names a function of the program. Conditions: the names are unlike.
-/
import Derived.Test.YtfahmfaakjnpcaaNmWakes
namespace Go.Proofs.Ytfahmfaakjnpcaa
set_option linter.unusedVariables false
set_option linter.unusedSimpArgs false
open Go.RowKit Go.Shelf

abbrev cfP : Cf := (0, 0, 0, 0, 0, 0, 5, 5, 0)
abbrev pH : NmH := ⟨0, cfP, none, 0, 0, none, 0, 0, false⟩
def p0 : Nm := ⟨0, cfP, [], [], false⟩
def p1 (a : ByteArray) (one : Int) : Nm := ⟨0, cfP, [], [(a, 2000, [one])], false⟩
def p2 (a b : ByteArray) (one two : Int) : Nm := ⟨0, cfP, [], [(a, 2000, [one]), (b, 2001, [two])], false⟩
def p3 (a b : ByteArray) (one two : Int) : Nm := ⟨0, cfP, [], [(a, 2000, [one, two]), (b, 2001, [two])], false⟩
def p4 (a b : ByteArray) (one two : Int) (t : ByteArray) (e ck : Int) : Nm := ⟨0, cfP, learnN (p3 a b one two) a t e ck, [(b, 2001, [two])], false⟩
def p5 (a b : ByteArray) (one two : Int) (t : ByteArray) (e ck : Int) : Nm := ⟨0, cfP, learnN (p4 a b one two t e ck) b t e ck, [], false⟩
theorem takeN_look (N : Nm) (m : Lt) (ck nx : Int) (ho : N.over = false) (h6 : m.k = 6) : takeN N 0 m ck nx = lookN N m.f m.t ck nx := by
  unfold takeN
  rw [if_neg (by rw [ho]; simp), if_neg (by decide), if_pos h6]
theorem takeN_row (N : Nm) (m : Lt) (ck nx : Int) (ho : N.over = false) (h7 : m.k = 7) : takeN N 0 m ck nx = rowN N m.f m.t m.e ck := by
  unfold takeN
  rw [if_neg (by rw [ho]; simp), if_neg (by decide), if_neg (by omega), if_pos h7]
theorem wf6 : (Lit.int .i8 6).wf = true := by decide
theorem wf7 : (Lit.int .i8 7).wf = true := by decide
section
variable (a b t : ByteArray) (one two e ck : Int)
theorem pk1 : takeN p0 0 ⟨6, one, 0, 0, a, 0⟩ ck 2000 = (p1 a one, spawnN 2000 0 a) := by
  rw [takeN_look _ _ _ _ rfl rfl, lookN_new rfl rfl]; rfl
theorem pk2 (h : a ≠ b) : takeN (p1 a one) 0 ⟨6, two, 0, 0, b, 0⟩ ck 2001 = (p2 a b one two, spawnN 2001 0 b) := by
  have hs : sEq a b = false := by rw [sEq_decide]; simpa using h
  rw [takeN_look _ _ _ _ rfl rfl, lookN_new rfl (by unfold placeF p1; simp [List.findIdx?_cons, hs])]; rfl
theorem pk3 : takeN (p2 a b one two) 0 ⟨6, two, 0, 0, a, 0⟩ ck 2002 = (p3 a b one two, []) := by
  rw [takeN_look _ _ _ _ rfl rfl, lookN_flies (i := 0) rfl (by unfold placeF p2; simp [List.findIdx?_cons, sEq_self])]; rfl
theorem pk4 : takeN (p3 a b one two) 0 ⟨7, 2000, 0, 0, t, e⟩ ck 2002 = (p4 a b one two t e ck, [tellN t e one, tellN t e two]) := by
  rw [takeN_row _ _ _ _ rfl rfl, rowN_some (i := 0) (f := (a, 2000, [one, two])) (by unfold placeS p3; simp [List.findIdx?_cons]) rfl]; rfl
theorem pk5 : takeN (p4 a b one two t e ck) 0 ⟨7, 2001, 0, 0, t, e⟩ ck 2002 = (p5 a b one two t e ck, [tellN t e two]) := by
  rw [takeN_row _ _ _ _ rfl rfl, rowN_some (i := 0) (f := (b, 2001, [two])) (by unfold placeS p4; simp [List.findIdx?_cons]) rfl]; rfl
theorem pf3 : [a, b].all (fliesB (p3 a b one two)) = true := by
  unfold fliesB placeF p3
  simp only [List.all_cons, List.all_nil, Bool.and_true, List.findIdx?_cons, sEq_self, if_true, Bool.and_eq_true]
  refine ⟨rfl, ?_⟩
  split <;> rfl
theorem pf4a (h : a ≠ b) : [a].all (fliesB (p4 a b one two t e ck)) = false := by
  have hs : sEq b a = false := by rw [sEq_decide]; simpa using fun h' => h h'.symm
  unfold fliesB placeF p4
  simp [List.findIdx?_cons, hs]
theorem pf4b : [b].all (fliesB (p4 a b one two t e ck)) = true := by
  unfold fliesB placeF p4
  simp [List.findIdx?_cons, sEq_self]
theorem pa3 : askedN (p3 a b one two) = 3 := rfl
theorem pa4 : askedN (p4 a b one two t e ck) = 1 := rfl
theorem pa5 : askedN (p5 a b one two t e ck) = 0 := rfl
theorem learn_len (N : Nm) (name : ByteArray) : (learnN N name t e ck).length ≤ N.kn.length + 1 := by
  unfold learnN
  have h1 := freshK_le N.kn ck
  have h2 : ∀ (l : List Kn) (x : Kn), (oneK l x).length ≤ l.length + 1 := by
    intro l x
    unfold oneK
    split
    · simp
    · simp only [List.length_append, List.length_cons, List.length_take, List.length_drop]; omega
  exact Nat.le_trans (h2 _ _) (by omega)
theorem pok0 : OkN p0 := ⟨by decide, by decide, by simp [p0]⟩
theorem pok1 : OkN (p1 a one) := ⟨by simp [p1], by simp [p1], by simp [p1]⟩
theorem pok2 : OkN (p2 a b one two) := ⟨by simp [p2], by simp [p2], by simp [p2]⟩
theorem pok3 : OkN (p3 a b one two) := ⟨by simp [p3], by simp [p3], by simp [p3]⟩
theorem pok4 : OkN (p4 a b one two t e ck) := ⟨Nat.le_trans (learn_len t e ck (p3 a b one two) a) (by simp [p3]), by simp [p4], by simp [p4]⟩
theorem pok5 : OkN (p5 a b one two t e ck) := ⟨Nat.le_trans (learn_len t e ck (p4 a b one two t e ck) b) (by have := learn_len t e ck (p3 a b one two) a; show (learnN (p3 a b one two) a t e ck).length + 1 ≤ 500; simp [p3] at this ⊢; omega), by simp [p5], by simp [p5]⟩
end
end Go.Proofs.Ytfahmfaakjnpcaa
