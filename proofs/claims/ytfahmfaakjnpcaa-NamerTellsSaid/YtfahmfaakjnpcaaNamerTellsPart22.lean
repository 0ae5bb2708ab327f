/-
  The statement NamerOver, walked. Conditions: the namer is one that an argument may be.
-/
import Derived.Test.YtfahmfaakjnpcaaNamerTellsPart21
namespace Go.Proofs.Ytfahmfaakjnpcaa
set_option linter.unusedVariables false
set_option linter.unusedSimpArgs false
open Go.RowKit Go.Shelf

def smallNm (h : NmH) (fs : List Fx) : Prop := h.fn ≤ 40 ∧ (∀ p ∈ fs, okAsk p) ∧ h.kn ≤ 60 ∧ h.id ≤ 1099511627776
/-- Behind the statement's first test. -/
def OvPre (w : World) (h : NmH) (fs : List Fx) (m : Lt) (s : Value) (wx : World) : Prop :=
  ∃ g : Bool, s = .bool g ∧ (g = false → smallNm h fs) ∧ NmRow wx w.heap.size h ∧ LtAt wx (w.heap.size + 1) m ∧ Below w.heap.size w wx
theorem smallNm.ok {w : World} {h : NmH} {l : List Kn} {fs : List Fx} (hs : smallNm h fs) (hN : NmIs w w.heap.size h l fs) : OkN (absN h l fs) := by
  refine ⟨by show l.length ≤ 500; have := hN.k.1; have := hs.2.2.1; omega, by show (absF fs).length ≤ 1000; rw [absF_len, hN.f.len]; have := hs.1; omega, ?_⟩
  intro y hy
  obtain ⟨p, hp, rfl⟩ := List.mem_map.1 hy
  have h1 := (hN.f.2 p hp).1.len
  have h2 := (hs.2.1 p hp).1
  show p.2.length ≤ 90000
  omega
theorem flrow_cells {w : World} {g : Nat} {a : ByteArray} {s : Int} {A : Option Addr} {n c : Nat} (h : w.heap[g]? = some (.cells #[.string a, .int .i64 s, .slice A n c] 82 (0, 0))) :
    w.cell? ⟨g, 0, none⟩ = some (.string a) ∧ w.cell? ⟨g, 1, none⟩ = some (.int .i64 s) ∧ w.cell? ⟨g, 2, none⟩ = some (.slice A n c) ∧ w.frozen? ⟨g, 2, none⟩ = false :=
  ⟨by simp [World.cell?, h], by simp [World.cell?, h], by simp [World.cell?, h], by simp [World.frozen?, h]⟩
end Go.Proofs.Ytfahmfaakjnpcaa
