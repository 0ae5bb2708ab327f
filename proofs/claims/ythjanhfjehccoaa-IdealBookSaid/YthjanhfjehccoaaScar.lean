/-
  Addresses and scars (api.Addr, api.Scar) in memory: slices that read as lists of records; append, Clone, Equal at them. Conditions: none; bounds on lengths are premises.
-/
import Derived.Test.YthjanhfjehccoaaRows
import Derived.Test.YthjanhfjehccoaaStep
import Derived.Laws.StructEq
namespace Go.Proofs.Ythjanhfjehccoaa
set_option linter.unusedVariables false
set_option linter.unusedSimpArgs false
open Go.RowKit

/-- Family, eight groups, port. -/
abbrev Ad := Int × Int × Int × Int × Int × Int × Int × Int × Int × Int
abbrev Sc := Ad × Int
instance decP2 : DecidableEq (Int × Int) := @instDecidableEqProd _ _ _ inferInstance
instance decP3 : DecidableEq (Int × Int × Int) := @instDecidableEqProd _ _ _ decP2
instance decP4 : DecidableEq (Int × Int × Int × Int) := @instDecidableEqProd _ _ _ decP3
instance decP5 : DecidableEq (Int × Int × Int × Int × Int) := @instDecidableEqProd _ _ _ decP4
instance decP6 : DecidableEq (Int × Int × Int × Int × Int × Int) := @instDecidableEqProd _ _ _ decP5
instance decP7 : DecidableEq (Int × Int × Int × Int × Int × Int × Int) := @instDecidableEqProd _ _ _ decP6
instance decP8 : DecidableEq (Int × Int × Int × Int × Int × Int × Int × Int) := @instDecidableEqProd _ _ _ decP7
instance decP9 : DecidableEq (Int × Int × Int × Int × Int × Int × Int × Int × Int) := @instDecidableEqProd _ _ _ decP8
instance decP10 : DecidableEq (Int × Int × Int × Int × Int × Int × Int × Int × Int × Int) := @instDecidableEqProd _ _ _ decP9
instance decAd : DecidableEq Ad := decP10
instance decSc : DecidableEq Sc := @instDecidableEqProd _ _ decP10 _
def encAd (x : Ad) : List Value := [.int .i8 x.1, .int .u16 x.2.1, .int .u16 x.2.2.1, .int .u16 x.2.2.2.1, .int .u16 x.2.2.2.2.1, .int .u16 x.2.2.2.2.2.1, .int .u16 x.2.2.2.2.2.2.1, .int .u16 x.2.2.2.2.2.2.2.1, .int .u16 x.2.2.2.2.2.2.2.2.1, .int .i64 x.2.2.2.2.2.2.2.2.2]
def encSc (x : Sc) : List Value := [.int .i8 x.1.1, .int .u16 x.1.2.1, .int .u16 x.1.2.2.1, .int .u16 x.1.2.2.2.1, .int .u16 x.1.2.2.2.2.1, .int .u16 x.1.2.2.2.2.2.1, .int .u16 x.1.2.2.2.2.2.2.1, .int .u16 x.1.2.2.2.2.2.2.2.1, .int .u16 x.1.2.2.2.2.2.2.2.2.1, .int .i64 x.1.2.2.2.2.2.2.2.2.2, .int .i64 x.2]
theorem encAd_len (x : Ad) : (encAd x).length = 10 := rfl
theorem encSc_len (x : Sc) : (encSc x).length = 11 := rfl
theorem encAd_one (x : Ad) (u : Value) (h : u ∈ encAd x) : u.oneCell' = true := by
  simp only [encAd, List.mem_cons, List.not_mem_nil, or_false] at h
  rcases h with rfl | rfl | rfl | rfl | rfl | rfl | rfl | rfl | rfl | rfl <;> rfl
theorem encSc_one (x : Sc) (u : Value) (h : u ∈ encSc x) : u.oneCell' = true := by
  simp only [encSc, List.mem_cons, List.not_mem_nil, or_false] at h
  rcases h with rfl | rfl | rfl | rfl | rfl | rfl | rfl | rfl | rfl | rfl | rfl <;> rfl
theorem infoAd : (Try.prog.info? 103).map (fun i => (i.zero, i.size, i.bytes)) = some (some (.agg #[.int .i8 0, .int .u16 0, .int .u16 0, .int .u16 0, .int .u16 0, .int .u16 0, .int .u16 0, .int .u16 0, .int .u16 0, .int .i64 0]), 10, 32) := by kernel_rfl
theorem encAd_oneCell (l : List Ad) : ∀ u ∈ l.flatMap encAd, u.oneCell' = true := by
  intro u hu
  obtain ⟨x, _, hx⟩ := List.mem_flatMap.1 hu
  exact encAd_one x u hx
abbrev Ads (w : World) (B : Nat) (A : Option Addr) (n : Nat) (xs : List Ad) : Prop := Recs encAd 10 w B A n xs
abbrev OwAd (w : World) (base : Nat) (A : Option Addr) (n c : Nat) (xs : List Ad) : Prop := OwR encAd 10 w base 103 A n c xs
theorem wpList_appAd (w : World) {ops : Array Oper} {rest : List Oper} {o : Oper} {a : Act} {Q : Exit → Act → World → Prop} (hgd : o.guard = none) (s x : Operand)
    (ho : o.op = .call { callee := .builtin .append, args := #[s, x], argTypes := #[78, 78] })
    (base : Nat) (A : Option Addr) (n c : Nat) (l : List Ad) (hsv : a.eval s = .slice A n c) (hown : OwAd w base A n c l)
    (B : Nat) (A2 : Option Addr) (m c2 : Nat) (l2 : List Ad) (hxv : a.eval x = .slice A2 m c2) (hs : Ads w B A2 m l2) (hb : n + m ≤ 1000000) (hbase : base ≤ w.heap.size)
    (h : ∀ A' c' w', OwAd w' base A' (n + m) c' (l ++ l2) → w.grownBy w' (rowOf A c) → (rowOf A' c' = rowOf A c ∨ (rowOf A' c' = some w.heap.size ∧ 0 < m)) →
      wpList Try.prog ops Q rest (a.put o.dst (.slice A' (n + m) c')) w') : wpList Try.prog ops Q (o :: rest) a w := by
  obtain ⟨i0, hi0, hz0, hz1, hz2⟩ := info_parts infoAd
  refine wpList_append_Ow w hgd s x 78 ho base 103 i0 _ 10 32 Try.underlying78 hi0 hz0 hz1 hz2 rfl (by decide) A n c _ hsv hown.2 B A2 m c2 _ hxv hs.2 (encAd_oneCell _) (by unfold maxLen; omega) (by omega) hbase ?_
  intro A' c' w' h1 h2 h3
  exact h A' c' w' ⟨by rw [List.length_append, hown.1, hs.1], by rw [List.flatMap_append]; exact h1⟩ h2 h3
theorem step_appAd {ops : Array Oper} {o : Oper} {a : Act} {w : World} {K : Act → World → Prop} {Q : Exit → Act → World → Prop} {E : Prop} (hgd : o.guard = none) (s x : Operand)
    (ho : o.op = .call { callee := .builtin .append, args := #[s, x], argTypes := #[78, 78] })
    (base : Nat) (A : Option Addr) (n c : Nat) (l : List Ad) (hsv : a.eval s = .slice A n c) (hown : OwAd w base A n c l)
    (B : Nat) (A2 : Option Addr) (m c2 : Nat) (l2 : List Ad) (hxv : a.eval x = .slice A2 m c2) (hs : Ads w B A2 m l2) (hb : n + m ≤ 1000000) (hbase : base ≤ w.heap.size)
    (h : ∀ A' c' w', OwAd w' base A' (n + m) c' (l ++ l2) → w.grownBy w' (rowOf A c) → (rowOf A' c' = rowOf A c ∨ (rowOf A' c' = some w.heap.size ∧ 0 < m)) → K (a.put o.dst (.slice A' (n + m) c')) w') :
    if Region.wanted o (yielded ops a.tmps) = true then Oper.wp Try.prog o a w K Q else E := by
  obtain ⟨i0, hi0, hz0, hz1, hz2⟩ := info_parts infoAd
  refine step_append_Ow hgd s x 78 ho base 103 i0 _ 10 32 Try.underlying78 hi0 hz0 hz1 hz2 rfl (by decide) A n c _ hsv hown.2 B A2 m c2 _ hxv hs.2 (encAd_oneCell _) (by unfold maxLen; omega) (by omega) hbase ?_
  intro A' c' w' h1 h2 h3
  exact h A' c' w' ⟨by rw [List.length_append, hown.1, hs.1], by rw [List.flatMap_append]; exact h1⟩ h2 h3
theorem infoSc : (Try.prog.info? 105).map (fun i => (i.zero, i.size, i.bytes)) = some (some (.agg #[.int .i8 0, .int .u16 0, .int .u16 0, .int .u16 0, .int .u16 0, .int .u16 0, .int .u16 0, .int .u16 0, .int .u16 0, .int .i64 0, .int .i64 0]), 11, 40) := by kernel_rfl
theorem encSc_oneCell (l : List Sc) : ∀ u ∈ l.flatMap encSc, u.oneCell' = true := by
  intro u hu
  obtain ⟨x, _, hx⟩ := List.mem_flatMap.1 hu
  exact encSc_one x u hx
abbrev Scs (w : World) (B : Nat) (A : Option Addr) (n : Nat) (xs : List Sc) : Prop := Recs encSc 11 w B A n xs
abbrev OwSc (w : World) (base : Nat) (A : Option Addr) (n c : Nat) (xs : List Sc) : Prop := OwR encSc 11 w base 105 A n c xs
theorem wpList_appSc (w : World) {ops : Array Oper} {rest : List Oper} {o : Oper} {a : Act} {Q : Exit → Act → World → Prop} (hgd : o.guard = none) (s x : Operand)
    (ho : o.op = .call { callee := .builtin .append, args := #[s, x], argTypes := #[28, 28] })
    (base : Nat) (A : Option Addr) (n c : Nat) (l : List Sc) (hsv : a.eval s = .slice A n c) (hown : OwSc w base A n c l)
    (B : Nat) (A2 : Option Addr) (m c2 : Nat) (l2 : List Sc) (hxv : a.eval x = .slice A2 m c2) (hs : Scs w B A2 m l2) (hb : n + m ≤ 1000000) (hbase : base ≤ w.heap.size)
    (h : ∀ A' c' w', OwSc w' base A' (n + m) c' (l ++ l2) → w.grownBy w' (rowOf A c) → (rowOf A' c' = rowOf A c ∨ (rowOf A' c' = some w.heap.size ∧ 0 < m)) →
      wpList Try.prog ops Q rest (a.put o.dst (.slice A' (n + m) c')) w') : wpList Try.prog ops Q (o :: rest) a w := by
  obtain ⟨i0, hi0, hz0, hz1, hz2⟩ := info_parts infoSc
  refine wpList_append_Ow w hgd s x 28 ho base 105 i0 _ 11 40 Try.underlying28 hi0 hz0 hz1 hz2 rfl (by decide) A n c _ hsv hown.2 B A2 m c2 _ hxv hs.2 (encSc_oneCell _) (by unfold maxLen; omega) (by omega) hbase ?_
  intro A' c' w' h1 h2 h3
  exact h A' c' w' ⟨by rw [List.length_append, hown.1, hs.1], by rw [List.flatMap_append]; exact h1⟩ h2 h3
theorem step_appSc {ops : Array Oper} {o : Oper} {a : Act} {w : World} {K : Act → World → Prop} {Q : Exit → Act → World → Prop} {E : Prop} (hgd : o.guard = none) (s x : Operand)
    (ho : o.op = .call { callee := .builtin .append, args := #[s, x], argTypes := #[28, 28] })
    (base : Nat) (A : Option Addr) (n c : Nat) (l : List Sc) (hsv : a.eval s = .slice A n c) (hown : OwSc w base A n c l)
    (B : Nat) (A2 : Option Addr) (m c2 : Nat) (l2 : List Sc) (hxv : a.eval x = .slice A2 m c2) (hs : Scs w B A2 m l2) (hb : n + m ≤ 1000000) (hbase : base ≤ w.heap.size)
    (h : ∀ A' c' w', OwSc w' base A' (n + m) c' (l ++ l2) → w.grownBy w' (rowOf A c) → (rowOf A' c' = rowOf A c ∨ (rowOf A' c' = some w.heap.size ∧ 0 < m)) → K (a.put o.dst (.slice A' (n + m) c')) w') :
    if Region.wanted o (yielded ops a.tmps) = true then Oper.wp Try.prog o a w K Q else E := by
  obtain ⟨i0, hi0, hz0, hz1, hz2⟩ := info_parts infoSc
  refine step_append_Ow hgd s x 28 ho base 105 i0 _ 11 40 Try.underlying28 hi0 hz0 hz1 hz2 rfl (by decide) A n c _ hsv hown.2 B A2 m c2 _ hxv hs.2 (encSc_oneCell _) (by unfold maxLen; omega) (by omega) hbase ?_
  intro A' c' w' h1 h2 h3
  exact h A' c' w' ⟨by rw [List.length_append, hown.1, hs.1], by rw [List.flatMap_append]; exact h1⟩ h2 h3
theorem Ads.cells {w : World} {B : Nat} {A : Option Addr} {n : Nat} {xs : List Ad} (h : Ads w B A n xs) {i : Nat} (hi : i < n) :
    ∃ b off x, A = some ⟨b, off, none⟩ ∧ b < B ∧ Hid (xs[i]? = some x) ∧ w.cell? ⟨b, off + i * 10, none⟩ = some (.int .i8 x.1) ∧ w.cell? ⟨b, off + i * 10 + 1, none⟩ = some (.int .u16 x.2.1) ∧ w.cell? ⟨b, off + i * 10 + 2, none⟩ = some (.int .u16 x.2.2.1) ∧ w.cell? ⟨b, off + i * 10 + 3, none⟩ = some (.int .u16 x.2.2.2.1) ∧ w.cell? ⟨b, off + i * 10 + 4, none⟩ = some (.int .u16 x.2.2.2.2.1) ∧ w.cell? ⟨b, off + i * 10 + 5, none⟩ = some (.int .u16 x.2.2.2.2.2.1) ∧ w.cell? ⟨b, off + i * 10 + 6, none⟩ = some (.int .u16 x.2.2.2.2.2.2.1) ∧ w.cell? ⟨b, off + i * 10 + 7, none⟩ = some (.int .u16 x.2.2.2.2.2.2.2.1) ∧ w.cell? ⟨b, off + i * 10 + 8, none⟩ = some (.int .u16 x.2.2.2.2.2.2.2.2.1) ∧ w.cell? ⟨b, off + i * 10 + 9, none⟩ = some (.int .i64 x.2.2.2.2.2.2.2.2.2) := by
  obtain ⟨b, off, x, e, hb, hx, hc⟩ := Recs.at_ encAd_len (by omega) h hi
  exact ⟨b, off, x, e, hb, hx, hc 0 _ rfl, (by have := hc 1 _ rfl; rwa [← Nat.add_assoc] at this), (by have := hc 2 _ rfl; rwa [← Nat.add_assoc] at this), (by have := hc 3 _ rfl; rwa [← Nat.add_assoc] at this), (by have := hc 4 _ rfl; rwa [← Nat.add_assoc] at this), (by have := hc 5 _ rfl; rwa [← Nat.add_assoc] at this), (by have := hc 6 _ rfl; rwa [← Nat.add_assoc] at this), (by have := hc 7 _ rfl; rwa [← Nat.add_assoc] at this), (by have := hc 8 _ rfl; rwa [← Nat.add_assoc] at this), (by have := hc 9 _ rfl; rwa [← Nat.add_assoc] at this)⟩
theorem Ads.new1 (w : World) (g : Nat) (hg : g = w.heap.size) (x : Ad) (e : TypeId) : Ads (w.alloc (.cells #[.int .i8 x.1, .int .u16 x.2.1, .int .u16 x.2.2.1, .int .u16 x.2.2.2.1, .int .u16 x.2.2.2.2.1, .int .u16 x.2.2.2.2.2.1, .int .u16 x.2.2.2.2.2.2.1, .int .u16 x.2.2.2.2.2.2.2.1, .int .u16 x.2.2.2.2.2.2.2.2.1, .int .i64 x.2.2.2.2.2.2.2.2.2] e)) (g + 1) (some ⟨g, 0, none⟩) 1 [x] := Recs.new_at encAd_len w g hg [x] 1 rfl _ rfl e
def valAd (x : Ad) : Value := .agg #[.int .i8 x.1, .int .u16 x.2.1, .int .u16 x.2.2.1, .int .u16 x.2.2.2.1, .int .u16 x.2.2.2.2.1, .int .u16 x.2.2.2.2.2.1, .int .u16 x.2.2.2.2.2.2.1, .int .u16 x.2.2.2.2.2.2.2.1, .int .u16 x.2.2.2.2.2.2.2.2.1, .int .i64 x.2.2.2.2.2.2.2.2.2]
theorem valAd_inj {x y : Ad} (h : valAd x = valAd y) : x = y := by
  have h2 : encAd x = encAd y := by
    have := congrArg (fun v => v.cells.toList) h
    exact this
  simp only [encAd, List.cons.injEq, Value.int.injEq, true_and, and_true] at h2
  simp only [Prod.ext_iff]
  simp [h2]
theorem Scs.cells {w : World} {B : Nat} {A : Option Addr} {n : Nat} {xs : List Sc} (h : Scs w B A n xs) {i : Nat} (hi : i < n) :
    ∃ b off x, A = some ⟨b, off, none⟩ ∧ b < B ∧ Hid (xs[i]? = some x) ∧ w.cell? ⟨b, off + i * 11, none⟩ = some (.int .i8 x.1.1) ∧ w.cell? ⟨b, off + i * 11 + 1, none⟩ = some (.int .u16 x.1.2.1) ∧ w.cell? ⟨b, off + i * 11 + 2, none⟩ = some (.int .u16 x.1.2.2.1) ∧ w.cell? ⟨b, off + i * 11 + 3, none⟩ = some (.int .u16 x.1.2.2.2.1) ∧ w.cell? ⟨b, off + i * 11 + 4, none⟩ = some (.int .u16 x.1.2.2.2.2.1) ∧ w.cell? ⟨b, off + i * 11 + 5, none⟩ = some (.int .u16 x.1.2.2.2.2.2.1) ∧ w.cell? ⟨b, off + i * 11 + 6, none⟩ = some (.int .u16 x.1.2.2.2.2.2.2.1) ∧ w.cell? ⟨b, off + i * 11 + 7, none⟩ = some (.int .u16 x.1.2.2.2.2.2.2.2.1) ∧ w.cell? ⟨b, off + i * 11 + 8, none⟩ = some (.int .u16 x.1.2.2.2.2.2.2.2.2.1) ∧ w.cell? ⟨b, off + i * 11 + 9, none⟩ = some (.int .i64 x.1.2.2.2.2.2.2.2.2.2) ∧ w.cell? ⟨b, off + i * 11 + 10, none⟩ = some (.int .i64 x.2) := by
  obtain ⟨b, off, x, e, hb, hx, hc⟩ := Recs.at_ encSc_len (by omega) h hi
  exact ⟨b, off, x, e, hb, hx, hc 0 _ rfl, (by have := hc 1 _ rfl; rwa [← Nat.add_assoc] at this), (by have := hc 2 _ rfl; rwa [← Nat.add_assoc] at this), (by have := hc 3 _ rfl; rwa [← Nat.add_assoc] at this), (by have := hc 4 _ rfl; rwa [← Nat.add_assoc] at this), (by have := hc 5 _ rfl; rwa [← Nat.add_assoc] at this), (by have := hc 6 _ rfl; rwa [← Nat.add_assoc] at this), (by have := hc 7 _ rfl; rwa [← Nat.add_assoc] at this), (by have := hc 8 _ rfl; rwa [← Nat.add_assoc] at this), (by have := hc 9 _ rfl; rwa [← Nat.add_assoc] at this), (by have := hc 10 _ rfl; rwa [← Nat.add_assoc] at this)⟩
theorem Scs.new1 (w : World) (g : Nat) (hg : g = w.heap.size) (x : Sc) (e : TypeId) : Scs (w.alloc (.cells #[.int .i8 x.1.1, .int .u16 x.1.2.1, .int .u16 x.1.2.2.1, .int .u16 x.1.2.2.2.1, .int .u16 x.1.2.2.2.2.1, .int .u16 x.1.2.2.2.2.2.1, .int .u16 x.1.2.2.2.2.2.2.1, .int .u16 x.1.2.2.2.2.2.2.2.1, .int .u16 x.1.2.2.2.2.2.2.2.2.1, .int .i64 x.1.2.2.2.2.2.2.2.2.2, .int .i64 x.2] e)) (g + 1) (some ⟨g, 0, none⟩) 1 [x] := Recs.new_at encSc_len w g hg [x] 1 rfl _ rfl e
def valSc (x : Sc) : Value := .agg #[.int .i8 x.1.1, .int .u16 x.1.2.1, .int .u16 x.1.2.2.1, .int .u16 x.1.2.2.2.1, .int .u16 x.1.2.2.2.2.1, .int .u16 x.1.2.2.2.2.2.1, .int .u16 x.1.2.2.2.2.2.2.1, .int .u16 x.1.2.2.2.2.2.2.2.1, .int .u16 x.1.2.2.2.2.2.2.2.2.1, .int .i64 x.1.2.2.2.2.2.2.2.2.2, .int .i64 x.2]
theorem valSc_inj {x y : Sc} (h : valSc x = valSc y) : x = y := by
  have h2 : encSc x = encSc y := by
    have := congrArg (fun v => v.cells.toList) h
    exact this
  simp only [encSc, List.cons.injEq, Value.int.injEq, true_and, and_true] at h2
  simp only [Prod.ext_iff]
  simp [h2]
theorem eqG (d : Nat) (a1 a2 a3 a4 a5 a6 a7 a8 b1 b2 b3 b4 b5 b6 b7 b8 : Int) (w : World) : (Op.equalIn (d + 1 + 1) 101 (.agg #[.int .u16 a1, .int .u16 a2, .int .u16 a3, .int .u16 a4, .int .u16 a5, .int .u16 a6, .int .u16 a7, .int .u16 a8]) (.agg #[.int .u16 b1, .int .u16 b2, .int .u16 b3, .int .u16 b4, .int .u16 b5, .int .u16 b6, .int .u16 b7, .int .u16 b8])).run Try.prog w = .ok (decide (a1 = b1 ∧ a2 = b2 ∧ a3 = b3 ∧ a4 = b4 ∧ a5 = b5 ∧ a6 = b6 ∧ a7 = b7 ∧ a8 = b8)) w := by
  have u3 := Try.underlying100
  have ag3 := Try.isAgg100
  have z3 := Try.sizeOf100
  rw [Op.equalIn]
  simp only [Sem.run_bind, run_underlying Try.underlying101, Result.andThen_ok]
  simp only [Std.Legacy.Range.forIn_eq_forIn_range', Std.Legacy.Range.size, Nat.sub_zero, Nat.add_sub_cancel, Nat.div_one, List.range'_succ, List.range'_zero, List.forIn_cons, List.forIn_nil]
  go_simp
  by_cases h1 : a1 = b1
  · by_cases h2 : a2 = b2
    · by_cases h3 : a3 = b3
      · by_cases h4 : a4 = b4
        · by_cases h5 : a5 = b5
          · by_cases h6 : a6 = b6
            · by_cases h7 : a7 = b7
              · by_cases h8 : a8 = b8
                · simp [h1, h2, h3, h4, h5, h6, h7, h8]
                · simp [h1, h2, h3, h4, h5, h6, h7, h8]
              · simp [h1, h2, h3, h4, h5, h6, h7]
            · simp [h1, h2, h3, h4, h5, h6]
          · simp [h1, h2, h3, h4, h5]
        · simp [h1, h2, h3, h4]
      · simp [h1, h2, h3]
    · simp [h1, h2]
  · simp [h1]
theorem eqAdD (d : Nat) (a0 a1 a2 a3 a4 a5 a6 a7 a8 a9 b0 b1 b2 b3 b4 b5 b6 b7 b8 b9 : Int) (w : World) : (Op.equalIn (d + 1 + 1 + 1) 103 (.agg #[.int .i8 a0, .int .u16 a1, .int .u16 a2, .int .u16 a3, .int .u16 a4, .int .u16 a5, .int .u16 a6, .int .u16 a7, .int .u16 a8, .int .i64 a9]) (.agg #[.int .i8 b0, .int .u16 b1, .int .u16 b2, .int .u16 b3, .int .u16 b4, .int .u16 b5, .int .u16 b6, .int .u16 b7, .int .u16 b8, .int .i64 b9])).run Try.prog w = .ok (decide (a0 = b0 ∧ a1 = b1 ∧ a2 = b2 ∧ a3 = b3 ∧ a4 = b4 ∧ a5 = b5 ∧ a6 = b6 ∧ a7 = b7 ∧ a8 = b8 ∧ a9 = b9)) w := by
  have u3 := Try.underlying3
  have u4 := Try.underlying35
  have hS : Try.prog.underlying 103 = some (.struct (Try.prog.fieldsOf 103)) := by kernel_rfl
  have hp : Try.prog.stoodInHeld 103 = false := by kernel_rfl
  have hG := eqG d a1 a2 a3 a4 a5 a6 a7 a8 b1 b2 b3 b4 b5 b6 b7 b8
  rw [run_equalIn_agg w (d + 1 + 1) 103 _ _ hS hp]
  simp only [Program.fieldsOf, Try.underlying103]
  go_simp
  by_cases h0 : a0 = b0
  · by_cases h1 : a1 = b1
    · by_cases h2 : a2 = b2
      · by_cases h3 : a3 = b3
        · by_cases h4 : a4 = b4
          · by_cases h5 : a5 = b5
            · by_cases h6 : a6 = b6
              · by_cases h7 : a7 = b7
                · by_cases h8 : a8 = b8
                  · by_cases h9 : a9 = b9
                    · simp [h0, h1, h2, h3, h4, h5, h6, h7, h8, h9]
                    · simp [h0, h1, h2, h3, h4, h5, h6, h7, h8, h9]
                  · simp [h0, h1, h2, h3, h4, h5, h6, h7, h8]
                · simp [h0, h1, h2, h3, h4, h5, h6, h7]
              · simp [h0, h1, h2, h3, h4, h5, h6]
            · simp [h0, h1, h2, h3, h4, h5]
          · simp [h0, h1, h2, h3, h4]
        · simp [h0, h1, h2, h3]
      · simp [h0, h1, h2]
    · simp [h0, h1]
  · simp [h0]
theorem ad_eq_iff (x y : Ad) : x = y ↔ (x.1 = y.1 ∧ x.2.1 = y.2.1 ∧ x.2.2.1 = y.2.2.1 ∧ x.2.2.2.1 = y.2.2.2.1 ∧ x.2.2.2.2.1 = y.2.2.2.2.1 ∧ x.2.2.2.2.2.1 = y.2.2.2.2.2.1 ∧ x.2.2.2.2.2.2.1 = y.2.2.2.2.2.2.1 ∧ x.2.2.2.2.2.2.2.1 = y.2.2.2.2.2.2.2.1 ∧ x.2.2.2.2.2.2.2.2.1 = y.2.2.2.2.2.2.2.2.1 ∧ x.2.2.2.2.2.2.2.2.2 = y.2.2.2.2.2.2.2.2.2) := by simp only [Prod.ext_iff]
theorem eqAd (x y : Ad) (w : World) : (Op.equalIn 10000 103 (valAd x) (valAd y)).run Try.prog w = .ok (decide (x = y)) w := by
  have h := eqAdD 9997 x.1 x.2.1 x.2.2.1 x.2.2.2.1 x.2.2.2.2.1 x.2.2.2.2.2.1 x.2.2.2.2.2.2.1 x.2.2.2.2.2.2.2.1 x.2.2.2.2.2.2.2.2.1 x.2.2.2.2.2.2.2.2.2 y.1 y.2.1 y.2.2.1 y.2.2.2.1 y.2.2.2.2.1 y.2.2.2.2.2.1 y.2.2.2.2.2.2.1 y.2.2.2.2.2.2.2.1 y.2.2.2.2.2.2.2.2.1 y.2.2.2.2.2.2.2.2.2 w
  rw [show decide (x.1 = y.1 ∧ x.2.1 = y.2.1 ∧ x.2.2.1 = y.2.2.1 ∧ x.2.2.2.1 = y.2.2.2.1 ∧ x.2.2.2.2.1 = y.2.2.2.2.1 ∧ x.2.2.2.2.2.1 = y.2.2.2.2.2.1 ∧ x.2.2.2.2.2.2.1 = y.2.2.2.2.2.2.1 ∧ x.2.2.2.2.2.2.2.1 = y.2.2.2.2.2.2.2.1 ∧ x.2.2.2.2.2.2.2.2.1 = y.2.2.2.2.2.2.2.2.1 ∧ x.2.2.2.2.2.2.2.2.2 = y.2.2.2.2.2.2.2.2.2) = decide (x = y) from decide_eq_decide.2 (ad_eq_iff x y).symm] at h
  exact h
theorem eqSc (x y : Sc) (w : World) : (Op.equalIn 10000 105 (valSc x) (valSc y)).run Try.prog w = .ok (decide (x = y)) w := by
  have u3 := Try.underlying3
  have hS : Try.prog.underlying 105 = some (.struct (Try.prog.fieldsOf 105)) := by kernel_rfl
  have hp : Try.prog.stoodInHeld 105 = false := by kernel_rfl
  have hA := eqAdD 9996 x.1.1 x.1.2.1 x.1.2.2.1 x.1.2.2.2.1 x.1.2.2.2.2.1 x.1.2.2.2.2.2.1 x.1.2.2.2.2.2.2.1 x.1.2.2.2.2.2.2.2.1 x.1.2.2.2.2.2.2.2.2.1 x.1.2.2.2.2.2.2.2.2.2 y.1.1 y.1.2.1 y.1.2.2.1 y.1.2.2.2.1 y.1.2.2.2.2.1 y.1.2.2.2.2.2.1 y.1.2.2.2.2.2.2.1 y.1.2.2.2.2.2.2.2.1 y.1.2.2.2.2.2.2.2.2.1 y.1.2.2.2.2.2.2.2.2.2
  rw [show decide (x.1.1 = y.1.1 ∧ x.1.2.1 = y.1.2.1 ∧ x.1.2.2.1 = y.1.2.2.1 ∧ x.1.2.2.2.1 = y.1.2.2.2.1 ∧ x.1.2.2.2.2.1 = y.1.2.2.2.2.1 ∧ x.1.2.2.2.2.2.1 = y.1.2.2.2.2.2.1 ∧ x.1.2.2.2.2.2.2.1 = y.1.2.2.2.2.2.2.1 ∧ x.1.2.2.2.2.2.2.2.1 = y.1.2.2.2.2.2.2.2.1 ∧ x.1.2.2.2.2.2.2.2.2.1 = y.1.2.2.2.2.2.2.2.2.1 ∧ x.1.2.2.2.2.2.2.2.2.2 = y.1.2.2.2.2.2.2.2.2.2) = decide (x.1 = y.1) from decide_eq_decide.2 (ad_eq_iff x.1 y.1).symm] at hA
  unfold valSc
  rw [show (10000 : Nat) = 9999 + 1 from rfl, run_equalIn_agg w 9999 105 _ _ hS hp]
  simp only [Program.fieldsOf, Try.underlying105]
  go_simp
  by_cases h1 : x.1 = y.1 <;> by_cases h2 : x.2 = y.2 <;> simp [h1, h2, Prod.ext_iff]
theorem ad_cells {w : World} {g : Nat} {x : Ad} {t : TypeId} (h : w.heap[g]? = some (.cells #[.int .i8 x.1, .int .u16 x.2.1, .int .u16 x.2.2.1, .int .u16 x.2.2.2.1, .int .u16 x.2.2.2.2.1, .int .u16 x.2.2.2.2.2.1, .int .u16 x.2.2.2.2.2.2.1, .int .u16 x.2.2.2.2.2.2.2.1, .int .u16 x.2.2.2.2.2.2.2.2.1, .int .i64 x.2.2.2.2.2.2.2.2.2] t (0, 0))) : w.cell? ⟨g, 0, none⟩ = some (.int .i8 x.1) ∧ w.cell? ⟨g, 1, none⟩ = some (.int .u16 x.2.1) ∧ w.cell? ⟨g, 2, none⟩ = some (.int .u16 x.2.2.1) ∧ w.cell? ⟨g, 3, none⟩ = some (.int .u16 x.2.2.2.1) ∧ w.cell? ⟨g, 4, none⟩ = some (.int .u16 x.2.2.2.2.1) ∧ w.cell? ⟨g, 5, none⟩ = some (.int .u16 x.2.2.2.2.2.1) ∧ w.cell? ⟨g, 6, none⟩ = some (.int .u16 x.2.2.2.2.2.2.1) ∧ w.cell? ⟨g, 7, none⟩ = some (.int .u16 x.2.2.2.2.2.2.2.1) ∧ w.cell? ⟨g, 8, none⟩ = some (.int .u16 x.2.2.2.2.2.2.2.2.1) ∧ w.cell? ⟨g, 9, none⟩ = some (.int .i64 x.2.2.2.2.2.2.2.2.2) := ⟨by simp [World.cell?, h], by simp [World.cell?, h], by simp [World.cell?, h], by simp [World.cell?, h], by simp [World.cell?, h], by simp [World.cell?, h], by simp [World.cell?, h], by simp [World.cell?, h], by simp [World.cell?, h], by simp [World.cell?, h]⟩
theorem sc_cells {w : World} {g : Nat} {x : Sc} {t : TypeId} (h : w.heap[g]? = some (.cells #[.int .i8 x.1.1, .int .u16 x.1.2.1, .int .u16 x.1.2.2.1, .int .u16 x.1.2.2.2.1, .int .u16 x.1.2.2.2.2.1, .int .u16 x.1.2.2.2.2.2.1, .int .u16 x.1.2.2.2.2.2.2.1, .int .u16 x.1.2.2.2.2.2.2.2.1, .int .u16 x.1.2.2.2.2.2.2.2.2.1, .int .i64 x.1.2.2.2.2.2.2.2.2.2, .int .i64 x.2] t (0, 0))) : w.cell? ⟨g, 0, none⟩ = some (.int .i8 x.1.1) ∧ w.cell? ⟨g, 1, none⟩ = some (.int .u16 x.1.2.1) ∧ w.cell? ⟨g, 2, none⟩ = some (.int .u16 x.1.2.2.1) ∧ w.cell? ⟨g, 3, none⟩ = some (.int .u16 x.1.2.2.2.1) ∧ w.cell? ⟨g, 4, none⟩ = some (.int .u16 x.1.2.2.2.2.1) ∧ w.cell? ⟨g, 5, none⟩ = some (.int .u16 x.1.2.2.2.2.2.1) ∧ w.cell? ⟨g, 6, none⟩ = some (.int .u16 x.1.2.2.2.2.2.2.1) ∧ w.cell? ⟨g, 7, none⟩ = some (.int .u16 x.1.2.2.2.2.2.2.2.1) ∧ w.cell? ⟨g, 8, none⟩ = some (.int .u16 x.1.2.2.2.2.2.2.2.2.1) ∧ w.cell? ⟨g, 9, none⟩ = some (.int .i64 x.1.2.2.2.2.2.2.2.2.2) ∧ w.cell? ⟨g, 10, none⟩ = some (.int .i64 x.2) := ⟨by simp [World.cell?, h], by simp [World.cell?, h], by simp [World.cell?, h], by simp [World.cell?, h], by simp [World.cell?, h], by simp [World.cell?, h], by simp [World.cell?, h], by simp [World.cell?, h], by simp [World.cell?, h], by simp [World.cell?, h], by simp [World.cell?, h]⟩
end Go.Proofs.Ythjanhfjehccoaa
