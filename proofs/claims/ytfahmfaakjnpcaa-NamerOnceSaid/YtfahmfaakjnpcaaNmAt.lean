/-
  The contracts of the cache's functions once more, with their results under names of the caller's, in rows of the call's own. Conditions: as there.
-/
import Derived.Test.YtfahmfaakjnpcaaKnRef3
import Derived.Test.YtfahmfaakjnpcaaNm
namespace Go.Proofs.Ytfahmfaakjnpcaa
set_option linter.unusedVariables false
set_option linter.unusedSimpArgs false
open Go.RowKit Go.Shelf

theorem get_at {A : Option Addr} {n c : Nat} {l : List Kn} {s : ByteArray} {now : Int} {w : World} (hl : Kns w w.heap.size A n l) (hn : n ≤ 1000) {G : Kn} {b : Bool} (hG : gotK (getK l s now) = G) (hb : (getK l s now).isSome = b) :
    Calls Try.prog 43 #[.slice A n c, .string s, .int .i64 now] w fun e w' => e = .returned (.tuple #[.agg #[.string G.1, .string G.2.1, .int .i64 G.2.2.1, .int .i64 G.2.2.2], .bool b]) ∧ Below w.heap.size w w' := by
  subst hG hb
  exact GetKn_any A n c l s now w hl hn
theorem entry_at {cf : Cf} {name row : ByteArray} {er now : Int} {w : World} {G : Kn} (hG : entryK cf.2.2.2.2.2.2.1 cf.2.2.2.2.2.2.2.1 name row er now = G) :
    Calls Try.prog 52 #[.agg #[.int .i64 cf.1, .int .i64 cf.2.1, .int .i64 cf.2.2.1, .int .i64 cf.2.2.2.1, .int .i64 cf.2.2.2.2.1, .int .i64 cf.2.2.2.2.2.1, .int .i64 cf.2.2.2.2.2.2.1, .int .i64 cf.2.2.2.2.2.2.2.1, .int .i64 cf.2.2.2.2.2.2.2.2], .string name, .string row, .int .i64 er, .int .i64 now] w fun e w' => e = .returned (.agg #[.string G.1, .string G.2.1, .int .i64 G.2.2.1, .int .i64 G.2.2.2]) ∧ Below w.heap.size w w' := by
  subst hG
  exact EntryKn_any cf name row er now w
theorem put_ow {A : Option Addr} {n c : Nat} {l : List Kn} {A2 : Option Addr} {n2 c2 : Nat} {more : List Kn} {w : World} (hl : Kns w w.heap.size A n l) (hm : Kns w w.heap.size A2 n2 more) (hn : n ≤ 500) (hn2 : n2 ≤ 400) {R : List Kn} {m : Nat} (hR : putK l more = R) (hRm : R.length = m) :
    Calls Try.prog 50 #[.slice A n c, .slice A2 n2 c2] w fun e w' => ∃ A' c', e = .returned (.slice A' m c') ∧ OwKn w' w.heap.size A' m c' R ∧ Below w.heap.size w w' := by
  subst hR hRm
  exact PutKn_any A n c l A2 n2 c2 more w hl hm hn hn2
theorem fresh_ow {A : Option Addr} {n c : Nat} {l : List Kn} {now : Int} {w : World} (hl : Kns w w.heap.size A n l) (hn : n ≤ 1000) {R : List Kn} {m : Nat} (hR : freshK l now = R) (hRm : R.length = m) :
    Calls Try.prog 51 #[.slice A n c, .int .i64 now] w fun e w' => ∃ A' c', e = .returned (.slice A' m c') ∧ OwKn w' w.heap.size A' m c' R ∧ Below w.heap.size w w' := by
  subst hR hRm
  exact FreshKn_any A n c l now w hl hn
theorem rget_at {A : Option Addr} {n c : Nat} {l : List Kn} {s : ByteArray} {now : Int} {w : World} (hl : Kns w w.heap.size A n l) (hn : n ≤ 1000) {G : Kn} {b : Bool} (hG : gotK (getK l s now) = G) (hb : (getK l s now).isSome = b) :
    Calls Try.prog 54 #[.slice A n c, .string s, .int .i64 now] w fun e w' => e = .returned (.tuple #[.agg #[.string G.1, .string G.2.1, .int .i64 G.2.2.1, .int .i64 G.2.2.2], .bool b]) ∧ Below w.heap.size w w' := by
  subst hG hb
  exact rGet_any A n c l s now w hl hn
theorem rentry_at {cf : Cf} {name row : ByteArray} {er now : Int} {w : World} {G : Kn} (hG : entryK cf.2.2.2.2.2.2.1 cf.2.2.2.2.2.2.2.1 name row er now = G) :
    Calls Try.prog 59 #[.agg #[.int .i64 cf.1, .int .i64 cf.2.1, .int .i64 cf.2.2.1, .int .i64 cf.2.2.2.1, .int .i64 cf.2.2.2.2.1, .int .i64 cf.2.2.2.2.2.1, .int .i64 cf.2.2.2.2.2.2.1, .int .i64 cf.2.2.2.2.2.2.2.1, .int .i64 cf.2.2.2.2.2.2.2.2], .string name, .string row, .int .i64 er, .int .i64 now] w fun e w' => e = .returned (.agg #[.string G.1, .string G.2.1, .int .i64 G.2.2.1, .int .i64 G.2.2.2]) ∧ Below w.heap.size w w' := by
  subst hG
  exact rEntry_any cf name row er now w
theorem rput_ow {A : Option Addr} {n c : Nat} {l : List Kn} {A2 : Option Addr} {n2 c2 : Nat} {more : List Kn} {w : World} (hl : Kns w w.heap.size A n l) (hm : Kns w w.heap.size A2 n2 more) (hn : n ≤ 500) (hn2 : n2 ≤ 400) {R : List Kn} {m : Nat} (hR : putK l more = R) (hRm : R.length = m) :
    Calls Try.prog 57 #[.slice A n c, .slice A2 n2 c2] w fun e w' => ∃ A' c', e = .returned (.slice A' m c') ∧ OwKn w' w.heap.size A' m c' R ∧ Below w.heap.size w w' := by
  subst hR hRm
  exact rPut_any A n c l A2 n2 c2 more w hl hm hn hn2
theorem rfresh_ow {A : Option Addr} {n c : Nat} {l : List Kn} {now : Int} {w : World} (hl : Kns w w.heap.size A n l) (hn : n ≤ 1000) {R : List Kn} {m : Nat} (hR : freshK l now = R) (hRm : R.length = m) :
    Calls Try.prog 58 #[.slice A n c, .int .i64 now] w fun e w' => ∃ A' c', e = .returned (.slice A' m c') ∧ OwKn w' w.heap.size A' m c' R ∧ Below w.heap.size w w' := by
  subst hR hRm
  exact rFresh_any A n c l now w hl hn
end Go.Proofs.Ytfahmfaakjnpcaa
