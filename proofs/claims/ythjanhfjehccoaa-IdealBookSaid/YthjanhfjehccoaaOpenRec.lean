/-
  How an argument that is a struct by value is opened: it reads as a record. Conditions: none.
-/
import Derived.Test.YthjanhfjehccoaaOpenRecs
import Derived.WideShapes
namespace Go.Proofs.Ythjanhfjehccoaa
set_option linter.unusedVariables false
set_option linter.unusedSimpArgs false
open Go.ChangeShapes Go.WideShapes Go.ChangeAt Go.RowKit Go.Deep

theorem open_Rec {H : Type} {enc : TypeId × Value → H} {P : Program} {W : World} {α : Type} {encR : α → List Value} {ok : α → Prop} {t b0 : TypeId} {fs : Array Field} {r : Reach} {v : Value} {d : DataW H} {p : List MemPlace}
    (ht : P.underlying t = some (.struct fs)) (dec : ∀ (fuel : Nat) (cs : List Value) (y : DataW H × List MemPlace), DataW.trod enc P W 0 (fun _ => true) true fuel t cs = some y → ∃ x, cs = encR x ∧ ok x)
    (hv : Value.okWide P W r b0 t v) (h : DataW.Trod enc P W 0 (fun _ => true) true t v d p) : ∃ x, v = .agg (encR x).toArray ∧ ok x := by
  obtain ⟨cs, rfl, _⟩ := okWide_struct ht hv
  obtain ⟨fuel, hf⟩ := h
  obtain ⟨x, hx, hok⟩ := dec fuel _ _ hf
  refine ⟨x, ?_, hok⟩
  have h2 : cs.toList = encR x := hx
  rw [← h2]
end Go.Proofs.Ythjanhfjehccoaa
