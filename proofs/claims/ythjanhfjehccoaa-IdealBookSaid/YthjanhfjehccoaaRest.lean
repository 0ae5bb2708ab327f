/-
  Idle sockets (api.Rest) in memory: a slice that reads as a list of pairs, a socket and since when; append, Clone, Equal at them. Conditions: none; bounds on lengths are premises.
-/
import Derived.Test.YthjanhfjehccoaaRows
import Derived.Test.YthjanhfjehccoaaStep
namespace Go.Proofs.Ythjanhfjehccoaa
set_option linter.unusedVariables false
set_option linter.unusedSimpArgs false
open Go.RowKit

abbrev Re := Int × Int
def encRe (x : Re) : List Value := [.int .i64 x.1, .int .i64 x.2]
theorem encRe_len (x : Re) : (encRe x).length = 2 := rfl
theorem encRe_one (x : Re) (u : Value) (h : u ∈ encRe x) : u.oneCell' = true := by
  simp only [encRe, List.mem_cons, List.not_mem_nil, or_false] at h
  rcases h with rfl | rfl <;> rfl
theorem infoRe : (Try.prog.info? 67).map (fun i => (i.zero, i.size, i.bytes)) = some (some (.agg #[.int .i64 0, .int .i64 0]), 2, 16) := by kernel_rfl
theorem encRe_oneCell (l : List Re) : ∀ u ∈ l.flatMap encRe, u.oneCell' = true := by
  intro u hu
  obtain ⟨x, _, hx⟩ := List.mem_flatMap.1 hu
  exact encRe_one x u hx
abbrev Res (w : World) (B : Nat) (A : Option Addr) (n : Nat) (xs : List Re) : Prop := Recs encRe 2 w B A n xs
abbrev OwRe (w : World) (base : Nat) (A : Option Addr) (n c : Nat) (xs : List Re) : Prop := OwR encRe 2 w base 67 A n c xs
theorem wpList_appRe (w : World) {ops : Array Oper} {rest : List Oper} {o : Oper} {a : Act} {Q : Exit → Act → World → Prop} (hgd : o.guard = none) (s x : Operand)
    (ho : o.op = .call { callee := .builtin .append, args := #[s, x], argTypes := #[24, 24] })
    (base : Nat) (A : Option Addr) (n c : Nat) (l : List Re) (hsv : a.eval s = .slice A n c) (hown : OwRe w base A n c l)
    (B : Nat) (A2 : Option Addr) (m c2 : Nat) (l2 : List Re) (hxv : a.eval x = .slice A2 m c2) (hs : Res w B A2 m l2) (hb : n + m ≤ 1000000) (hbase : base ≤ w.heap.size)
    (h : ∀ A' c' w', OwRe w' base A' (n + m) c' (l ++ l2) → w.grownBy w' (rowOf A c) → (rowOf A' c' = rowOf A c ∨ (rowOf A' c' = some w.heap.size ∧ 0 < m)) →
      wpList Try.prog ops Q rest (a.put o.dst (.slice A' (n + m) c')) w') : wpList Try.prog ops Q (o :: rest) a w := by
  obtain ⟨i0, hi0, hz0, hz1, hz2⟩ := info_parts infoRe
  refine wpList_append_Ow w hgd s x 24 ho base 67 i0 _ 2 16 Try.underlying24 hi0 hz0 hz1 hz2 rfl (by decide) A n c _ hsv hown.2 B A2 m c2 _ hxv hs.2 (encRe_oneCell _) (by unfold maxLen; omega) (by omega) hbase ?_
  intro A' c' w' h1 h2 h3
  exact h A' c' w' ⟨by rw [List.length_append, hown.1, hs.1], by rw [List.flatMap_append]; exact h1⟩ h2 h3
theorem step_appRe {ops : Array Oper} {o : Oper} {a : Act} {w : World} {K : Act → World → Prop} {Q : Exit → Act → World → Prop} {E : Prop} (hgd : o.guard = none) (s x : Operand)
    (ho : o.op = .call { callee := .builtin .append, args := #[s, x], argTypes := #[24, 24] })
    (base : Nat) (A : Option Addr) (n c : Nat) (l : List Re) (hsv : a.eval s = .slice A n c) (hown : OwRe w base A n c l)
    (B : Nat) (A2 : Option Addr) (m c2 : Nat) (l2 : List Re) (hxv : a.eval x = .slice A2 m c2) (hs : Res w B A2 m l2) (hb : n + m ≤ 1000000) (hbase : base ≤ w.heap.size)
    (h : ∀ A' c' w', OwRe w' base A' (n + m) c' (l ++ l2) → w.grownBy w' (rowOf A c) → (rowOf A' c' = rowOf A c ∨ (rowOf A' c' = some w.heap.size ∧ 0 < m)) → K (a.put o.dst (.slice A' (n + m) c')) w') :
    if Region.wanted o (yielded ops a.tmps) = true then Oper.wp Try.prog o a w K Q else E := by
  obtain ⟨i0, hi0, hz0, hz1, hz2⟩ := info_parts infoRe
  refine step_append_Ow hgd s x 24 ho base 67 i0 _ 2 16 Try.underlying24 hi0 hz0 hz1 hz2 rfl (by decide) A n c _ hsv hown.2 B A2 m c2 _ hxv hs.2 (encRe_oneCell _) (by unfold maxLen; omega) (by omega) hbase ?_
  intro A' c' w' h1 h2 h3
  exact h A' c' w' ⟨by rw [List.length_append, hown.1, hs.1], by rw [List.flatMap_append]; exact h1⟩ h2 h3
theorem Res.cells {w : World} {B : Nat} {A : Option Addr} {n : Nat} {xs : List Re} (h : Res w B A n xs) {i : Nat} (hi : i < n) :
    ∃ b off x, A = some ⟨b, off, none⟩ ∧ b < B ∧ Hid (xs[i]? = some x) ∧ w.cell? ⟨b, off + i * 2, none⟩ = some (.int .i64 x.1) ∧ w.cell? ⟨b, off + i * 2 + 1, none⟩ = some (.int .i64 x.2) := by
  obtain ⟨b, off, x, e, hb, hx, hc⟩ := Recs.at_ encRe_len (by omega) h hi
  exact ⟨b, off, x, e, hb, hx, hc 0 _ rfl, by have := hc 1 _ rfl; rwa [← Nat.add_assoc] at this⟩
theorem Res.new1 (w : World) (g : Nat) (hg : g = w.heap.size) (x : Re) (e : TypeId) : Res (w.alloc (.cells #[.int .i64 x.1, .int .i64 x.2] e)) (g + 1) (some ⟨g, 0, none⟩) 1 [x] := Recs.new_at encRe_len w g hg [x] 1 rfl _ rfl e
theorem Res.new3 (w : World) (g : Nat) (hg : g = w.heap.size) (x y z : Re) (e : TypeId) : Res (w.alloc (.cells #[.int .i64 x.1, .int .i64 x.2, .int .i64 y.1, .int .i64 y.2, .int .i64 z.1, .int .i64 z.2] e)) (g + 1) (some ⟨g, 0, none⟩) 3 [x, y, z] := Recs.new_at encRe_len w g hg [x, y, z] 3 rfl _ rfl e
end Go.Proofs.Ythjanhfjehccoaa
