/-
  The document's example of chapter 18: two races ask for one name. Conditions: none.
-/
import Derived.Test.YtfahmfaakjnpcaaNmV
namespace Go.Proofs.Ytfahmfaakjnpcaa
set_option linter.unusedVariables false
set_option linter.unusedSimpArgs false
open Go.RowKit Go.Shelf

abbrev sA : ByteArray := ⟨#[97]⟩
abbrev sRow : ByteArray := ⟨#[49, 46, 50, 46, 51, 46, 52, 58, 53]⟩
abbrev cfW : Cf := (0, 0, 0, 0, 0, 0, 5, 2, 0)
def n0 : Nm := ⟨0, cfW, [], [], false⟩
def n1 : Nm := ⟨0, cfW, [], [(sA, 9, [4])], false⟩
def n2 : Nm := ⟨0, cfW, [], [(sA, 9, [4, 6])], false⟩
def n3 : Nm := ⟨0, cfW, learnN n2 sA sRow 0 1, [], false⟩
abbrev n0H : NmH := ⟨0, cfW, none, 0, 0, none, 0, 0, false⟩
theorem NmV.nil_ (q : Nat) (W : World) (id : Int) (cf : Cf) : NmV q W ⟨id, cf, [], [], false⟩ ⟨id, cf, none, 0, 0, none, 0, 0, false⟩ :=
  ⟨[], [], fun w'' _ _ => ⟨Recs.nil_ _ _ _, FlysIs.nil_ _ _ _, Nat.le_refl _, Nat.le_refl _⟩, rfl⟩
theorem wk1 : takeN n0 0 ⟨6, 4, 0, 0, sA, 0⟩ 0 9 = (n1, spawnN 9 0 sA) := by
  unfold takeN
  rw [if_neg (by decide), if_neg (by decide), if_pos rfl]
  rw [lookN_new rfl rfl]
  rfl
theorem wk2 : takeN n1 0 ⟨6, 6, 0, 0, sA, 0⟩ 0 10 = (n2, []) := by
  unfold takeN
  rw [if_neg (by decide), if_neg (by decide), if_pos rfl]
  rw [lookN_flies (i := 0) rfl (by unfold placeF n1; simp [List.findIdx?_cons, sEq_self])]
  rfl
theorem wk3 : takeN n2 0 ⟨7, 9, 0, 0, sRow, 0⟩ 1 10 = (n3, [tellN sRow 0 4, tellN sRow 0 6]) := by
  unfold takeN
  rw [if_neg (by decide), if_neg (by decide), if_neg (by decide), if_pos rfl]
  rw [rowN_some (i := 0) (f := (sA, 9, [4, 6])) (by unfold placeS n2; simp [List.findIdx?_cons]) rfl]
  rfl
theorem wk_flies : [sA].all (fliesB n2) = true := by
  unfold fliesB placeF n2
  simp [List.findIdx?_cons, sEq_self]
theorem wk_learn : (learnN n2 sA sRow 0 1).length = 1 := rfl
end Go.Proofs.Ytfahmfaakjnpcaa
