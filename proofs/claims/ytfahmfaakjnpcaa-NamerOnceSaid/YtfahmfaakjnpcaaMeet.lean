/-
  Where ways through a statement whose order is open meet again: a law for it. Nothing here names a function of the program. Conditions: none.
-/
import Derived.Test.YtfahmfaakjnpcaaStep
namespace Go.Proofs.Ytfahmfaakjnpcaa
set_option linter.unusedVariables false
set_option linter.unusedSimpArgs false
open Go.RowKit

theorem wpAnyH_listed {P : Program} {md : Region.Mode} {ops : Array Oper} {Q : Exit → Act → World → Prop} {S : World → Prop} {fuel : Nat} {listed listed' : Array Bool} {a : Act} {w : World} (h : listed = listed')
    (hk : wpAnyH P md ops Q S fuel listed' a w) : wpAnyH P md ops Q S fuel listed a w := by subst h; exact hk
theorem wpAnyH_meet4 {P : Program} {md : Region.Mode} {ops : Array Oper} {Q : Exit → Act → World → Prop} {S : World → Prop} {fuel : Nat} {listed : Array Bool} {a : Act} {w : World} {α β γ δ : Type}
    {fuel' : Nat} {listed' : Array Bool} {F : α → β → γ → δ → Act} (R : α → β → γ → δ → World → Prop)
    (rest : (∀ x y z u wx, S wx → R x y z u wx → wpAnyH P md ops Q S fuel' listed' (F x y z u) wx) → wpAnyH P md ops Q S fuel listed a w)
    (key : ∀ x y z u wx, S wx → R x y z u wx → wpAnyH P md ops Q S fuel' listed' (F x y z u) wx) : wpAnyH P md ops Q S fuel listed a w := rest key
theorem wpAnyH_meet6 {P : Program} {md : Region.Mode} {ops : Array Oper} {Q : Exit → Act → World → Prop} {S : World → Prop} {fuel : Nat} {listed : Array Bool} {a : Act} {w : World} {α β γ δ ε ζ : Type}
    {fuel' : Nat} {listed' : Array Bool} {F : α → β → γ → δ → ε → ζ → Act} (R : α → β → γ → δ → ε → ζ → World → Prop)
    (rest : (∀ x y z u v t wx, S wx → R x y z u v t wx → wpAnyH P md ops Q S fuel' listed' (F x y z u v t) wx) → wpAnyH P md ops Q S fuel listed a w)
    (key : ∀ x y z u v t wx, S wx → R x y z u v t wx → wpAnyH P md ops Q S fuel' listed' (F x y z u v t) wx) : wpAnyH P md ops Q S fuel listed a w := rest key
theorem wpAnyH_meet9 {P : Program} {md : Region.Mode} {ops : Array Oper} {Q : Exit → Act → World → Prop} {S : World → Prop} {fuel : Nat} {listed : Array Bool} {a : Act} {w : World} {α β γ δ ε ζ η θ κ : Type}
    {fuel' : Nat} {listed' : Array Bool} {F : α → β → γ → δ → ε → ζ → η → θ → κ → Act} (R : α → β → γ → δ → ε → ζ → η → θ → κ → World → Prop)
    (rest : (∀ x y z u v t r s q wx, S wx → R x y z u v t r s q wx → wpAnyH P md ops Q S fuel' listed' (F x y z u v t r s q) wx) → wpAnyH P md ops Q S fuel listed a w)
    (key : ∀ x y z u v t r s q wx, S wx → R x y z u v t r s q wx → wpAnyH P md ops Q S fuel' listed' (F x y z u v t r s q) wx) : wpAnyH P md ops Q S fuel listed a w := rest key
end Go.Proofs.Ytfahmfaakjnpcaa
