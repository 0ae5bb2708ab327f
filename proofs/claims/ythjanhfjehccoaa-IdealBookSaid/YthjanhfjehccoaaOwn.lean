/-
  A slice that the call itself made, or an empty one without room: what it holds, where it lies, and what append makes of it. Conditions: none; bounds on lengths are premises.
-/
import Derived.Test.YthjanhfjehccoaaBase
import Derived.Maps.AppendAt
namespace Go.Proofs.Ythjanhfjehccoaa
set_option linter.unusedVariables false
set_option linter.unusedSimpArgs false
open Go.RowKit

/-- The slice (A, n, c) of elements of type e, of k cells each, holds xs in a row among blocks from base on; or it has no room at all. -/
def Ow (w : World) (base : Nat) (e : TypeId) (k : Nat) (A : Option Addr) (n c : Nat) (xs : List Value) : Prop :=
  xs.length = n * k ∧ n ≤ c ∧ c ≤ maxLen ∧
  (c = 0 ∨ ∃ g cur, A = some ⟨g, 0, none⟩ ∧ base ≤ g ∧ w.heap[g]? = some (.cells cur e (0, 0)) ∧ cur.size = c * k ∧ cur.toList.take (n * k) = xs)

/-- The block in which it may write. -/
def rowOf (A : Option Addr) (c : Nat) : Option Nat := if c = 0 then none else A.map (·.block)

section
variable {w w' : World} {base B : Nat} {e : TypeId} {k n c : Nat} {A : Option Addr} {xs : List Value}

theorem Ow.nil_ (w : World) (base : Nat) (e : TypeId) (k : Nat) (A : Option Addr) : Ow w base e k A 0 0 [] := ⟨by simp, by omega, by unfold maxLen; omega, .inl rfl⟩

theorem Ow.row (h : Ow w base e k A n c xs) : ∀ g, rowOf A c = some g → base ≤ g ∧ g < w.heap.size := by
  intro g hg
  rcases h.2.2.2 with h0 | ⟨g', cur, rfl, hb, hh, _⟩
  · simp [rowOf, h0] at hg
  · unfold rowOf at hg
    split at hg
    · cases hg
    · simp at hg
      subst hg
      exact ⟨hb, (Array.getElem?_eq_some_iff.1 hh).1⟩

theorem Ow.kept (h : Ow w base e k A n c xs) {row : Option Nat} (hg : w.grownBy w' row) (hne : rowOf A c = none ∨ rowOf A c ≠ row) : Ow w' base e k A n c xs := by
  refine ⟨h.1, h.2.1, h.2.2.1, ?_⟩
  rcases h.2.2.2 with h0 | ⟨g, cur, rfl, hb, hh, rest⟩
  · exact .inl h0
  · by_cases hc : c = 0
    · exact .inl hc
    · refine .inr ⟨g, cur, rfl, hb, ?_, rest⟩
      rw [hg.block g (Array.getElem?_eq_some_iff.1 hh).1 (by simpa [rowOf, hc] using hne)]
      exact hh

theorem Ow.block (h : Ow w base e k A n c xs) (hb : ∀ g, rowOf A c = some g → w'.heap[g]? = w.heap[g]?) : Ow w' base e k A n c xs := by
  refine ⟨h.1, h.2.1, h.2.2.1, ?_⟩
  rcases h.2.2.2 with h0 | ⟨g, cur, rfl, hbs, hh, rest⟩
  · exact .inl h0
  · by_cases hc : c = 0
    · exact .inl hc
    · refine .inr ⟨g, cur, rfl, hbs, ?_, rest⟩
      rw [hb g (by simp [rowOf, hc])]
      exact hh

theorem Ow.alloc (h : Ow w base e k A n c xs) (o : Obj) : Ow (w.alloc o) base e k A n c xs :=
  h.block fun g hg => Below.heap_alloc w o g (h.row g hg).2
theorem Ow.drew (h : Ow w base e k A n c xs) : Ow w.drew base e k A n c xs := h
theorem Ow.drewN (h : Ow w base e k A n c xs) (m : Nat) : Ow (w.drewN m) base e k A n c xs := h
theorem Ow.below (h : Ow w base e k A n c xs) (hb : Below w.heap.size w w') : Ow w' base e k A n c xs :=
  h.block fun g hg => hb.block g (h.row g hg).2
theorem Ow.below' (h : Ow w base e k A n c xs) (hb : Below B w w') (hB : ∀ g, rowOf A c = some g → g < B) : Ow w' base e k A n c xs :=
  h.block fun g hg => hb.block g (hB g hg)
theorem Ow.set (h : Ow w base e k A n c xs) {p : Addr} (hp : ∀ g, rowOf A c = some g → g ≠ p.block) (u : Value) : Ow (w.setCell p u) base e k A n c xs :=
  h.block fun g hg => Below.heap_setCell w p u g (hp g hg)
theorem Ow.rebase {base' : Nat} (h : Ow w base e k A n c xs) (hb : base' ≤ base) : Ow w base' e k A n c xs := by
  refine ⟨h.1, h.2.1, h.2.2.1, ?_⟩
  rcases h.2.2.2 with h0 | ⟨g, cur, e1, hbs, rest⟩
  · exact .inl h0
  · exact .inr ⟨g, cur, e1, Nat.le_trans hb hbs, rest⟩

/-- It reads as a list. -/
theorem Ow.sl (h : Ow w base e k A n c xs) : Sl w w.heap.size k A n xs := by
  refine ⟨h.1, fun h0 h1 => ?_⟩
  rcases h.2.2.2 with hc | ⟨g, cur, rfl, hbs, hh, hsz, htk⟩
  · have := h.2.1; omega
  · refine ⟨g, 0, rfl, (Array.getElem?_eq_some_iff.1 hh).1, fun j u hu => ?_⟩
    rw [cell_of_row w g (0 + j) cur e (0, 0) hh]
    rw [← htk, List.getElem?_take] at hu
    split at hu
    · simpa using hu
    · cases hu

theorem Ow.of_owns {v : Value} (h : w.ownsRow base e k v n xs) : ∃ A c, v = .slice A n c ∧ Ow w base e k A n c xs ∧ rowOf A c = (if c = 0 then none else v.ownBlock) := by
  rcases h.2 with ⟨rfl, rfl⟩ | ⟨g, cap, cur, rfl, hb, hh, hnc, hcm, hcs, htk⟩
  · exact ⟨none, 0, rfl, ⟨h.1, by omega, by unfold maxLen; omega, .inl rfl⟩, by simp [rowOf]⟩
  · exact ⟨_, cap, rfl, ⟨h.1, hnc, hcm, .inr ⟨g, cur, rfl, hb, hh, hcs, htk⟩⟩, by simp [rowOf, Value.ownBlock]⟩
end

section
variable {P : Program} (w : World)

theorem run_append_none (t ty e : TypeId) (i : TypeInfo) (ht : P.underlying t = some (.slice e)) (hi : P.info? e = some i) (A A2 : Option Addr) (n c c2 : Nat) (hnc : n ≤ c) (hA : A = none → n = 0) :
    (Builtin.append_ #[t, t] ty #[.slice A n c, .slice A2 0 c2]).run P w = .ok (.slice A n c) w := by
  rcases A with _ | a <;> rcases A2 with _ | a2
  · have := hA rfl; subst this; simp [Builtin.append_, run_underlying ht, sizeOf, typeInfo, hi, Builtin.lenOf, Builtin.firstCells]
  · have := hA rfl; subst this; simp [Builtin.append_, run_underlying ht, sizeOf, typeInfo, hi, Builtin.lenOf, Builtin.firstCells, loadCells, loadCellsFrom]
  · simp [Builtin.append_, run_underlying ht, sizeOf, typeInfo, hi, Builtin.lenOf, Builtin.firstCells, hnc, storeCells]
  · simp [Builtin.append_, run_underlying ht, sizeOf, typeInfo, hi, Builtin.lenOf, Builtin.firstCells, hnc, storeCells, loadCells, loadCellsFrom]

/-- append, whatever the source: nil, empty or not. -/
theorem run_append_Ow (base : Nat) (t ty e : TypeId) (i : TypeInfo) (z : Value) (k bytes : Nat) (ht : P.underlying t = some (.slice e)) (hi : P.info? e = some i) (hz : i.zero = some z)
    (hk : i.size = k) (hby : i.bytes = bytes) (hzs : z.cells.size = k) (hk0 : 0 < k)
    (A : Option Addr) (n c : Nat) (xs : List Value) (hown : Ow w base e k A n c xs)
    (B : Nat) (A2 : Option Addr) (m c2 : Nat) (news : List Value) (hs : Sl w B k A2 m news) (h1 : ∀ u ∈ news, u.oneCell' = true)
    (h63 : n + m ≤ maxLen) (hbytes : (n + m) * bytes ≤ 140737488355328) (hbase : base ≤ w.heap.size) :
    ∃ A' c' w', (Builtin.append_ #[t, t] ty #[.slice A n c, .slice A2 m c2]).run P w = .ok (.slice A' (n + m) c') w' ∧ Ow w' base e k A' (n + m) c' (xs ++ news) ∧ w.grownBy w' (rowOf A c) ∧
      (rowOf A' c' = rowOf A c ∨ (rowOf A' c' = some w.heap.size ∧ 0 < m)) := by
  rcases Nat.eq_zero_or_pos m with rfl | hm
  · obtain rfl : news = [] := List.eq_nil_of_length_eq_zero (by simpa using hs.1)
    refine ⟨A, c, w, run_append_none w t ty e i ht hi A A2 n c c2 hown.2.1 ?_, by simpa using hown, World.grownBy.refl w _, .inl rfl⟩
    intro hA
    rcases hown.2.2.2 with h0 | ⟨g, cur, hA', _⟩
    · have := hown.2.1; omega
    · rw [hA] at hA'; cases hA'
  · obtain ⟨b, off, rfl, hb, hc⟩ := hs.2 hm hk0
    have hnews : ∀ j u, news[j]? = some u → w.cell? ((⟨b, off, none⟩ : Addr).add j) = some u := by
      intro j u hu
      have hadd : (⟨b, off, none⟩ : Addr).add j = ⟨b, off + j, none⟩ := by unfold Addr.add; split <;> simp_all
      rw [hadd]
      exact hc j u hu
    rcases Nat.eq_zero_or_pos c with rfl | hcp
    · have hn0 : n = 0 := by have := hown.2.1; omega
      subst hn0
      obtain rfl : xs = [] := List.eq_nil_of_length_eq_zero (by simpa using hown.1)
      rcases A with _ | a
      · obtain ⟨v', w', hrun, ho, hg, _, hat⟩ := run_append_own_at (P := P) w base t ty e i z k bytes ht hi hz hk hby hzs hk0 (.slice none 0 0) 0 [] (World.ownsRow_nil w base e k) ⟨b, off, none⟩ m c2 news hs.1 hnews h1 h63 hbytes hbase
        obtain ⟨A', c', rfl, hO, hrow⟩ := Ow.of_owns ho
        refine ⟨A', c', w', hrun, hO, by simpa [rowOf, Value.ownBlock] using hg, ?_⟩
        rw [hrow]
        by_cases hc' : c' = 0
        · simp [hc', rowOf]
        · rw [if_neg hc']
          rcases hat with h | h
          · left; rw [h]; simp [rowOf, Value.ownBlock]
          · exact .inr ⟨h, hm⟩
      · have hr := run_append_grow (P := P) w t ty e i z ht hi hz a 0 0 [] (by simp) (fun j v h => by simp at h) ⟨b, off, none⟩ m c2 news (by rw [hs.1, hk]) hnews (by omega) (by unfold maxLen at h63; omega) (by
            have := growslice_fits (need := 0 + m) (old := 0) (bytes := bytes) (by omega) hbytes
            rw [hby]; exact this)
        have hge := grownCap_ge w (0 + m) 0 e
        have hcm : grownCap w (0 + m) 0 e ≤ maxLen := grownCap_le_maxLen w (0 + m) 0 e h63
        refine ⟨_, _, _, hr, ⟨by simp [hs.1], hge, hcm, .inr ⟨w.heap.size, _, rfl, hbase, heap_alloc_new w.drew _, ?_, ?_⟩⟩, ⟨rfl, rfl, rfl, by simp, fun q hq _ => Below.heap_alloc w.drew _ q hq⟩, .inr ⟨?_, hm⟩⟩
        · simp only [Array.size_append, List.size_toArray, size_zeroCells, hzs, hs.1, List.length_nil, Nat.zero_add, ← Nat.add_mul]
          congr 1
          simp only [Nat.zero_add] at hge
          omega
        · simp only [Array.toList_append, List.nil_append]
          rw [show (0 + m) * k = news.length from by rw [hs.1]; simp]
          exact List.take_left
        · have : grownCap w (0 + m) 0 e ≠ 0 := by omega
          simp [rowOf] at this ⊢
          exact this
    · rcases hown.2.2.2 with h0 | ⟨g, cur, rfl, hbg, hh, hsz, htk⟩
      · omega
      · have ho0 : w.ownsRow base e k (.slice (some ⟨g, 0, none⟩) n c) n xs := ⟨hown.1, .inr ⟨g, c, cur, rfl, hbg, hh, hown.2.1, hown.2.2.1, hsz, htk⟩⟩
        obtain ⟨v', w', hrun, ho, hg, _, hat⟩ := run_append_own_at (P := P) w base t ty e i z k bytes ht hi hz hk hby hzs hk0 _ n xs ho0 ⟨b, off, none⟩ m c2 news hs.1 hnews h1 h63 hbytes hbase
        obtain ⟨A', c', rfl, hO, hrow⟩ := Ow.of_owns ho
        have hc0 : c ≠ 0 := by omega
        have hc' : c' ≠ 0 := by have := hO.2.1; omega
        refine ⟨A', c', w', hrun, hO, by simpa [rowOf, Value.ownBlock, hc0] using hg, ?_⟩
        rw [hrow, if_neg hc']
        rcases hat with h | h
        · left; rw [h]; simp [rowOf, Value.ownBlock, hc0]
        · exact .inr ⟨h, hm⟩

theorem wpList_append_Ow {ops : Array Oper} {rest : List Oper} {o : Oper} {a : Act} {Q : Exit → Act → World → Prop} (hgd : o.guard = none) (s x : Operand) (t : TypeId)
    (ho : o.op = .call { callee := .builtin .append, args := #[s, x], argTypes := #[t, t] })
    (base : Nat) (e : TypeId) (i : TypeInfo) (z : Value) (k bytes : Nat) (ht : P.underlying t = some (.slice e)) (hi : P.info? e = some i) (hz : i.zero = some z)
    (hk : i.size = k) (hby : i.bytes = bytes) (hzs : z.cells.size = k) (hk0 : 0 < k)
    (A : Option Addr) (n c : Nat) (xs : List Value) (hsv : a.eval s = .slice A n c) (hown : Ow w base e k A n c xs)
    (B : Nat) (A2 : Option Addr) (m c2 : Nat) (news : List Value) (hxv : a.eval x = .slice A2 m c2) (hs : Sl w B k A2 m news) (h1 : ∀ u ∈ news, u.oneCell' = true)
    (h63 : n + m ≤ maxLen) (hbytes : (n + m) * bytes ≤ 140737488355328) (hbase : base ≤ w.heap.size)
    (h : ∀ A' c' w', Ow w' base e k A' (n + m) c' (xs ++ news) → w.grownBy w' (rowOf A c) → (rowOf A' c' = rowOf A c ∨ (rowOf A' c' = some w.heap.size ∧ 0 < m)) →
      wpList P ops Q rest (a.put o.dst (.slice A' (n + m) c')) w') : wpList P ops Q (o :: rest) a w := by
  obtain ⟨A', c', w', hrun, h2, h3, h4⟩ := run_append_Ow (P := P) w base t o.type e i z k bytes ht hi hz hk hby hzs hk0 A n c xs hown B A2 m c2 news hs h1 h63 hbytes hbase
  refine wpList_plain hgd fun K hK => ?_
  unfold Oper.wp execOp
  simp only [ho, resolve, invoke, builtin, Sem.run_bind, Sem.run_pure, Result.andThen_ok, List.map_toArray, List.map_cons, List.map_nil, hsv, hxv, hrun]
  exact hK _ _ (h A' c' w' h2 h3 h4)
end

/-- A slice of ints of the call's own. -/
def OwI (w : World) (base : Nat) (e : TypeId) (A : Option Addr) (n c : Nat) (l : List Int) : Prop := Ow w base e 1 A n c (l.map (Value.int .i64))

section
variable {w w' : World} {base : Nat} {e : TypeId} {n c : Nat} {A : Option Addr} {l : List Int}
theorem OwI.nil_ (w : World) (base : Nat) (e : TypeId) (A : Option Addr) : OwI w base e A 0 0 [] := Ow.nil_ w base e 1 A
theorem OwI.len (h : OwI w base e A n c l) : l.length = n := by have := h.1; simpa using this
theorem OwI.ints (h : OwI w base e A n c l) : Ints w w.heap.size A n l := Ow.sl h
theorem OwI.alloc (h : OwI w base e A n c l) (o : Obj) : OwI (w.alloc o) base e A n c l := Ow.alloc h o
theorem OwI.drew (h : OwI w base e A n c l) : OwI w.drew base e A n c l := h
theorem OwI.drewN (h : OwI w base e A n c l) (m : Nat) : OwI (w.drewN m) base e A n c l := h
theorem OwI.below (h : OwI w base e A n c l) (hb : Below w.heap.size w w') : OwI w' base e A n c l := Ow.below h hb
end

theorem int_oneCell (l : List Int) : ∀ u ∈ l.map (Value.int .i64), u.oneCell' = true := by
  intro u hu
  obtain ⟨x, _, rfl⟩ := List.mem_map.1 hu
  rfl

end Go.Proofs.Ythjanhfjehccoaa
