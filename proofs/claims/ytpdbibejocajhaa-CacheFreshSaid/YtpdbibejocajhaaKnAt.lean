/-
  The contracts of chapter 11 once more, with their results under names of the caller's. Conditions: as there.
-/
import Derived.Test.YtpdbibejocajhaaKnWakes
namespace Go.Proofs.Ytpdbibejocajhaa
set_option linter.unusedVariables false
set_option linter.unusedSimpArgs false
open Go.RowKit Go.Shelf

theorem cf_cells {w : World} {g : Nat} {x : Cf} {t : TypeId} (h : w.heap[g]? = some (.cells #[.int .i64 x.1, .int .i64 x.2.1, .int .i64 x.2.2.1, .int .i64 x.2.2.2.1, .int .i64 x.2.2.2.2.1, .int .i64 x.2.2.2.2.2.1, .int .i64 x.2.2.2.2.2.2.1, .int .i64 x.2.2.2.2.2.2.2.1, .int .i64 x.2.2.2.2.2.2.2.2] t (0, 0))) :
    w.cell? ⟨g, 0, none⟩ = some (.int .i64 x.1) ∧ w.cell? ⟨g, 1, none⟩ = some (.int .i64 x.2.1) ∧ w.cell? ⟨g, 2, none⟩ = some (.int .i64 x.2.2.1) ∧ w.cell? ⟨g, 3, none⟩ = some (.int .i64 x.2.2.2.1) ∧ w.cell? ⟨g, 4, none⟩ = some (.int .i64 x.2.2.2.2.1) ∧ w.cell? ⟨g, 5, none⟩ = some (.int .i64 x.2.2.2.2.2.1) ∧ w.cell? ⟨g, 6, none⟩ = some (.int .i64 x.2.2.2.2.2.2.1) ∧ w.cell? ⟨g, 7, none⟩ = some (.int .i64 x.2.2.2.2.2.2.2.1) ∧ w.cell? ⟨g, 8, none⟩ = some (.int .i64 x.2.2.2.2.2.2.2.2) := by
  refine ⟨?_, ?_, ?_, ?_, ?_, ?_, ?_, ?_, ?_⟩ <;> simp [World.cell?, h]
theorem eqKn_self (x : Kn) (w : World) : (Op.equalIn 10000 30 (.agg #[.string x.1, .string x.2.1, .int .i64 x.2.2.1, .int .i64 x.2.2.2]) (.agg #[.string x.1, .string x.2.1, .int .i64 x.2.2.1, .int .i64 x.2.2.2])).run Try.prog w = .ok true w := by
  have := eqKn x x w
  simpa [valKn] using this
theorem get_at {A : Option Addr} {n c : Nat} {l : List Kn} {s : ByteArray} {now : Int} {w : World} (hl : Kns w w.heap.size A n l) (hn : n ≤ 1000) {G : Kn} {b : Bool} (hG : gotK (getK l s now) = G) (hb : (getK l s now).isSome = b) :
    Calls Try.prog 13 #[.slice A n c, .string s, .int .i64 now] w fun e w' => e = .returned (.tuple #[.agg #[.string G.1, .string G.2.1, .int .i64 G.2.2.1, .int .i64 G.2.2.2], .bool b]) ∧ Below w.heap.size w w' := by
  subst hG hb
  exact GetKn_any A n c l s now w hl hn
theorem rget_at {A : Option Addr} {n c : Nat} {l : List Kn} {s : ByteArray} {now : Int} {w : World} (hl : Kns w w.heap.size A n l) (hn : n ≤ 1000) {G : Kn} {b : Bool} (hG : gotK (getK l s now) = G) (hb : (getK l s now).isSome = b) :
    Calls Try.prog 18 #[.slice A n c, .string s, .int .i64 now] w fun e w' => e = .returned (.tuple #[.agg #[.string G.1, .string G.2.1, .int .i64 G.2.2.1, .int .i64 G.2.2.2], .bool b]) ∧ Below w.heap.size w w' := by
  subst hG hb
  exact rGet_any A n c l s now w hl hn
theorem entry_at {cf : Cf} {name row : ByteArray} {er now : Int} {w : World} {G : Kn} (hG : entryK cf.2.2.2.2.2.2.1 cf.2.2.2.2.2.2.2.1 name row er now = G) :
    Calls Try.prog 17 #[.agg #[.int .i64 cf.1, .int .i64 cf.2.1, .int .i64 cf.2.2.1, .int .i64 cf.2.2.2.1, .int .i64 cf.2.2.2.2.1, .int .i64 cf.2.2.2.2.2.1, .int .i64 cf.2.2.2.2.2.2.1, .int .i64 cf.2.2.2.2.2.2.2.1, .int .i64 cf.2.2.2.2.2.2.2.2], .string name, .string row, .int .i64 er, .int .i64 now] w fun e w' => e = .returned (.agg #[.string G.1, .string G.2.1, .int .i64 G.2.2.1, .int .i64 G.2.2.2]) ∧ Below w.heap.size w w' := by
  subst hG
  exact EntryKn_any cf name row er now w
theorem rentry_at {cf : Cf} {name row : ByteArray} {er now : Int} {w : World} {G : Kn} (hG : entryK cf.2.2.2.2.2.2.1 cf.2.2.2.2.2.2.2.1 name row er now = G) :
    Calls Try.prog 20 #[.agg #[.int .i64 cf.1, .int .i64 cf.2.1, .int .i64 cf.2.2.1, .int .i64 cf.2.2.2.1, .int .i64 cf.2.2.2.2.1, .int .i64 cf.2.2.2.2.2.1, .int .i64 cf.2.2.2.2.2.2.1, .int .i64 cf.2.2.2.2.2.2.2.1, .int .i64 cf.2.2.2.2.2.2.2.2], .string name, .string row, .int .i64 er, .int .i64 now] w fun e w' => e = .returned (.agg #[.string G.1, .string G.2.1, .int .i64 G.2.2.1, .int .i64 G.2.2.2]) ∧ Below w.heap.size w w' := by
  subst hG
  exact rEntry_any cf name row er now w
theorem put_at {A : Option Addr} {n c : Nat} {l : List Kn} {A2 : Option Addr} {n2 c2 : Nat} {more : List Kn} {w : World} (hl : Kns w w.heap.size A n l) (hm : Kns w w.heap.size A2 n2 more) (hn : n ≤ 500) (hn2 : n2 ≤ 400) {R : List Kn} {m : Nat} (hR : putK l more = R) (hRm : R.length = m) :
    Calls Try.prog 16 #[.slice A n c, .slice A2 n2 c2] w fun e w' => ∃ A' c', e = .returned (.slice A' m c') ∧ Kns w' w'.heap.size A' m R ∧ Below w.heap.size w w' := by
  subst hR hRm
  refine (PutKn_any A n c l A2 n2 c2 more w hl hm hn hn2).mono ?_
  rintro e w' ⟨A', c', rfl, ho, hb⟩
  exact ⟨A', c', rfl, ho.recs, hb⟩
theorem rput_at {A : Option Addr} {n c : Nat} {l : List Kn} {A2 : Option Addr} {n2 c2 : Nat} {more : List Kn} {w : World} (hl : Kns w w.heap.size A n l) (hm : Kns w w.heap.size A2 n2 more) (hn : n ≤ 500) (hn2 : n2 ≤ 400) {R : List Kn} {m : Nat} (hR : putK l more = R) (hRm : R.length = m) :
    Calls Try.prog 21 #[.slice A n c, .slice A2 n2 c2] w fun e w' => ∃ A' c', e = .returned (.slice A' m c') ∧ Kns w' w'.heap.size A' m R ∧ Below w.heap.size w w' := by
  subst hR hRm
  refine (rPut_any A n c l A2 n2 c2 more w hl hm hn hn2).mono ?_
  rintro e w' ⟨A', c', rfl, ho, hb⟩
  exact ⟨A', c', rfl, ho.recs, hb⟩
theorem fresh_at {A : Option Addr} {n c : Nat} {l : List Kn} {now : Int} {w : World} (hl : Kns w w.heap.size A n l) (hn : n ≤ 1000) {R : List Kn} {m : Nat} (hR : freshK l now = R) (hRm : R.length = m) :
    Calls Try.prog 11 #[.slice A n c, .int .i64 now] w fun e w' => ∃ A' c', e = .returned (.slice A' m c') ∧ Kns w' w'.heap.size A' m R ∧ Below w.heap.size w w' := by
  subst hR hRm
  refine (FreshKn_any A n c l now w hl hn).mono ?_
  rintro e w' ⟨A', c', rfl, ho, hb⟩
  exact ⟨A', c', rfl, ho.recs, hb⟩
theorem rfresh_at {A : Option Addr} {n c : Nat} {l : List Kn} {now : Int} {w : World} (hl : Kns w w.heap.size A n l) (hn : n ≤ 1000) {R : List Kn} {m : Nat} (hR : freshK l now = R) (hRm : R.length = m) :
    Calls Try.prog 22 #[.slice A n c, .int .i64 now] w fun e w' => ∃ A' c', e = .returned (.slice A' m c') ∧ Kns w' w'.heap.size A' m R ∧ Below w.heap.size w w' := by
  subst hR hRm
  refine (rFresh_any A n c l now w hl hn).mono ?_
  rintro e w' ⟨A', c', rfl, ho, hb⟩
  exact ⟨A', c', rfl, ho.recs, hb⟩
theorem same_at {A1 A2 : Option Addr} {n c1 c2 B1 B2 : Nat} {R : List Kn} {w : World} (h1 : Kns w B1 A1 n R) (h2 : Kns w B2 A2 n R) (hn : n ≤ 100000) :
    Calls Try.prog 12 #[.slice A1 n c1, .slice A2 n c2] w fun e w' => e = .returned (.bool true) ∧ Below w.heap.size w w' :=
  (rSame11_any A1 A2 n n c1 c2 B1 B2 R R w h1 h2 hn hn).mono fun e w' ⟨a, b⟩ => ⟨by rw [a]; simp, b⟩
theorem kn_keep {w w' : World} {g : Nat} {cs : Array Value} {t : TypeId} (hb : Below w.heap.size w w') (h : w.heap[g]? = some (.cells cs t (0, 0))) : w'.heap[g]? = some (.cells cs t (0, 0)) := (hb.block _ (Array.getElem?_eq_some_iff.1 h).1).trans h
end Go.Proofs.Ytpdbibejocajhaa
