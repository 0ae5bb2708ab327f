/-
  Callers, offers, deeds (api.Caller, api.Offer, api.Deed) in memory. Conditions: none; bounds on lengths are premises.
-/
import Derived.Test.YtamfbbmkkhcnpaaRows
import Derived.Test.YtamfbbmkkhcnpaaStep
import Derived.Laws.StructEq
namespace Go.Proofs.Ytamfbbmkkhcnpaa
open Go.RowKit

/-- A caller: its fields in their order; A, n, c: the slice of its owners. -/
structure Ca where
  id : Int
  done : Int
  op : Int
  owner : Int
  sock : Int
  A : Option Addr
  n : Nat
  c : Nat
  st : Int
  i : Int
  rt : Int
  rs : Int
  re : Int
def encCa (x : Ca) : List Value := [.int .i64 x.id, .int .i64 x.done, .int .i8 x.op, .int .i64 x.owner, .int .i64 x.sock, .slice x.A x.n x.c, .int .i8 x.st, .int .i64 x.i, .int .i64 x.rt, .int .i64 x.rs, .int .i64 x.re]
theorem encCa_len (x : Ca) : (encCa x).length = 11 := rfl
abbrev Cas (w : World) (B : Nat) (A : Option Addr) (n : Nat) (xs : List Ca) : Prop := Recs encCa 11 w B A n xs
/-- An offer without a text: its kind, its duct, its letter's kind, from, number, socket. -/
abbrev OfR := Int × Int × Int × Int × Int × Int
def encOf (x : OfR) : List Value := [.int .i8 x.1, .int .i64 x.2.1, .int .i8 x.2.2.1, .int .i64 x.2.2.2.1, .int .i64 x.2.2.2.2.1, .int .i64 x.2.2.2.2.2, .string ⟨#[]⟩, .int .i64 0, .int .i64 0]
theorem encOf_len (x : OfR) : (encOf x).length = 9 := rfl
theorem encOf_one (x : OfR) (u : Value) (h : u ∈ encOf x) : u.oneCell' = true := by
  simp only [encOf, List.mem_cons, List.not_mem_nil, or_false] at h
  rcases h with rfl | rfl | rfl | rfl | rfl | rfl | rfl | rfl | rfl <;> rfl
theorem infoOf : (Try.prog.info? 40).map (fun i => (i.zero, i.size, i.bytes)) = some (some (.agg #[.int .i8 0, .int .i64 0, .int .i8 0, .int .i64 0, .int .i64 0, .int .i64 0, .string ⟨#[]⟩, .int .i64 0, .int .i64 0]), 9, 80) := by kernel_rfl
theorem encOf_oneCell (l : List OfR) : ∀ u ∈ l.flatMap encOf, u.oneCell' = true := by
  intro u hu
  obtain ⟨x, _, hx⟩ := List.mem_flatMap.1 hu
  exact encOf_one x u hx
abbrev Ofs (w : World) (B : Nat) (A : Option Addr) (n : Nat) (xs : List OfR) : Prop := Recs encOf 9 w B A n xs
abbrev OwOf (w : World) (base : Nat) (A : Option Addr) (n c : Nat) (xs : List OfR) : Prop := OwR encOf 9 w base 40 A n c xs
theorem wpList_appOf (w : World) {ops : Array Oper} {rest : List Oper} {o : Oper} {a : Act} {Q : Exit → Act → World → Prop} (hgd : o.guard = none) (s x : Operand)
    (ho : o.op = .call { callee := .builtin .append, args := #[s, x], argTypes := #[33, 33] })
    (base : Nat) (A : Option Addr) (n c : Nat) (l : List OfR) (hsv : a.eval s = .slice A n c) (hown : OwOf w base A n c l)
    (B : Nat) (A2 : Option Addr) (m c2 : Nat) (l2 : List OfR) (hxv : a.eval x = .slice A2 m c2) (hs : Ofs w B A2 m l2) (hb : n + m ≤ 1000000) (hbase : base ≤ w.heap.size)
    (h : ∀ A' c' w', OwOf w' base A' (n + m) c' (l ++ l2) → w.grownBy w' (rowOf A c) → (rowOf A' c' = rowOf A c ∨ (rowOf A' c' = some w.heap.size ∧ 0 < m)) →
      wpList Try.prog ops Q rest (a.put o.dst (.slice A' (n + m) c')) w') : wpList Try.prog ops Q (o :: rest) a w := by
  obtain ⟨i0, hi0, hz0, hz1, hz2⟩ := info_parts infoOf
  refine wpList_append_Ow w hgd s x 33 ho base 40 i0 _ 9 80 Try.underlying33 hi0 hz0 hz1 hz2 rfl (by decide) A n c _ hsv hown.2 B A2 m c2 _ hxv hs.2 (encOf_oneCell _) (by unfold maxLen; omega) (by omega) hbase ?_
  intro A' c' w' h1 h2 h3
  exact h A' c' w' ⟨by rw [List.length_append, hown.1, hs.1], by rw [List.flatMap_append]; exact h1⟩ h2 h3
theorem step_appOf {ops : Array Oper} {o : Oper} {a : Act} {w : World} {K : Act → World → Prop} {Q : Exit → Act → World → Prop} {E : Prop} (hgd : o.guard = none) (s x : Operand)
    (ho : o.op = .call { callee := .builtin .append, args := #[s, x], argTypes := #[33, 33] })
    (base : Nat) (A : Option Addr) (n c : Nat) (l : List OfR) (hsv : a.eval s = .slice A n c) (hown : OwOf w base A n c l)
    (B : Nat) (A2 : Option Addr) (m c2 : Nat) (l2 : List OfR) (hxv : a.eval x = .slice A2 m c2) (hs : Ofs w B A2 m l2) (hb : n + m ≤ 1000000) (hbase : base ≤ w.heap.size)
    (h : ∀ A' c' w', OwOf w' base A' (n + m) c' (l ++ l2) → w.grownBy w' (rowOf A c) → (rowOf A' c' = rowOf A c ∨ (rowOf A' c' = some w.heap.size ∧ 0 < m)) → K (a.put o.dst (.slice A' (n + m) c')) w') :
    if Region.wanted o (yielded ops a.tmps) = true then Oper.wp Try.prog o a w K Q else E := by
  obtain ⟨i0, hi0, hz0, hz1, hz2⟩ := info_parts infoOf
  refine step_append_Ow hgd s x 33 ho base 40 i0 _ 9 80 Try.underlying33 hi0 hz0 hz1 hz2 rfl (by decide) A n c _ hsv hown.2 B A2 m c2 _ hxv hs.2 (encOf_oneCell _) (by unfold maxLen; omega) (by omega) hbase ?_
  intro A' c' w' h1 h2 h3
  exact h A' c' w' ⟨by rw [List.length_append, hown.1, hs.1], by rw [List.flatMap_append]; exact h1⟩ h2 h3
/-- A deed that closes a duct. -/
def encDe (a : Int) : List Value := [.int .i8 1, .int .i64 a, .int .i8 0, .int .i64 0, .int .i64 0, .int .i64 0, .string ⟨#[]⟩, .int .i64 0, .int .i8 0, .int .u16 0, .int .u16 0, .int .u16 0, .int .u16 0, .int .u16 0, .int .u16 0, .int .u16 0, .int .u16 0, .int .i64 0, .pointer none]
theorem encDe_len (x : Int) : (encDe x).length = 19 := rfl
theorem encDe_one (x : Int) (u : Value) (h : u ∈ encDe x) : u.oneCell' = true := by
  simp only [encDe, List.mem_cons, List.not_mem_nil, or_false] at h
  rcases h with rfl | rfl | rfl | rfl | rfl | rfl | rfl | rfl | rfl | rfl | rfl | rfl | rfl | rfl | rfl | rfl | rfl | rfl | rfl <;> rfl
theorem infoDe : (Try.prog.info? 55).map (fun i => (i.zero, i.size, i.bytes)) = some (some (.agg #[.int .i8 0, .int .i64 0, .int .i8 0, .int .i64 0, .int .i64 0, .int .i64 0, .string ⟨#[]⟩, .int .i64 0, .int .i8 0, .int .u16 0, .int .u16 0, .int .u16 0, .int .u16 0, .int .u16 0, .int .u16 0, .int .u16 0, .int .u16 0, .int .i64 0, .pointer none]), 19, 112) := by kernel_rfl
theorem encDe_oneCell (l : List Int) : ∀ u ∈ l.flatMap encDe, u.oneCell' = true := by
  intro u hu
  obtain ⟨x, _, hx⟩ := List.mem_flatMap.1 hu
  exact encDe_one x u hx
abbrev Des (w : World) (B : Nat) (A : Option Addr) (n : Nat) (xs : List Int) : Prop := Recs encDe 19 w B A n xs
abbrev OwDe (w : World) (base : Nat) (A : Option Addr) (n c : Nat) (xs : List Int) : Prop := OwR encDe 19 w base 55 A n c xs
theorem wpList_appDe (w : World) {ops : Array Oper} {rest : List Oper} {o : Oper} {a : Act} {Q : Exit → Act → World → Prop} (hgd : o.guard = none) (s x : Operand)
    (ho : o.op = .call { callee := .builtin .append, args := #[s, x], argTypes := #[42, 42] })
    (base : Nat) (A : Option Addr) (n c : Nat) (l : List Int) (hsv : a.eval s = .slice A n c) (hown : OwDe w base A n c l)
    (B : Nat) (A2 : Option Addr) (m c2 : Nat) (l2 : List Int) (hxv : a.eval x = .slice A2 m c2) (hs : Des w B A2 m l2) (hb : n + m ≤ 1000000) (hbase : base ≤ w.heap.size)
    (h : ∀ A' c' w', OwDe w' base A' (n + m) c' (l ++ l2) → w.grownBy w' (rowOf A c) → (rowOf A' c' = rowOf A c ∨ (rowOf A' c' = some w.heap.size ∧ 0 < m)) →
      wpList Try.prog ops Q rest (a.put o.dst (.slice A' (n + m) c')) w') : wpList Try.prog ops Q (o :: rest) a w := by
  obtain ⟨i0, hi0, hz0, hz1, hz2⟩ := info_parts infoDe
  refine wpList_append_Ow w hgd s x 42 ho base 55 i0 _ 19 112 Try.underlying42 hi0 hz0 hz1 hz2 rfl (by decide) A n c _ hsv hown.2 B A2 m c2 _ hxv hs.2 (encDe_oneCell _) (by unfold maxLen; omega) (by omega) hbase ?_
  intro A' c' w' h1 h2 h3
  exact h A' c' w' ⟨by rw [List.length_append, hown.1, hs.1], by rw [List.flatMap_append]; exact h1⟩ h2 h3
theorem step_appDe {ops : Array Oper} {o : Oper} {a : Act} {w : World} {K : Act → World → Prop} {Q : Exit → Act → World → Prop} {E : Prop} (hgd : o.guard = none) (s x : Operand)
    (ho : o.op = .call { callee := .builtin .append, args := #[s, x], argTypes := #[42, 42] })
    (base : Nat) (A : Option Addr) (n c : Nat) (l : List Int) (hsv : a.eval s = .slice A n c) (hown : OwDe w base A n c l)
    (B : Nat) (A2 : Option Addr) (m c2 : Nat) (l2 : List Int) (hxv : a.eval x = .slice A2 m c2) (hs : Des w B A2 m l2) (hb : n + m ≤ 1000000) (hbase : base ≤ w.heap.size)
    (h : ∀ A' c' w', OwDe w' base A' (n + m) c' (l ++ l2) → w.grownBy w' (rowOf A c) → (rowOf A' c' = rowOf A c ∨ (rowOf A' c' = some w.heap.size ∧ 0 < m)) → K (a.put o.dst (.slice A' (n + m) c')) w') :
    if Region.wanted o (yielded ops a.tmps) = true then Oper.wp Try.prog o a w K Q else E := by
  obtain ⟨i0, hi0, hz0, hz1, hz2⟩ := info_parts infoDe
  refine step_append_Ow hgd s x 42 ho base 55 i0 _ 19 112 Try.underlying42 hi0 hz0 hz1 hz2 rfl (by decide) A n c _ hsv hown.2 B A2 m c2 _ hxv hs.2 (encDe_oneCell _) (by unfold maxLen; omega) (by omega) hbase ?_
  intro A' c' w' h1 h2 h3
  exact h A' c' w' ⟨by rw [List.length_append, hown.1, hs.1], by rw [List.flatMap_append]; exact h1⟩ h2 h3
theorem Ofs.new1 (w : World) (g : Nat) (hg : g = w.heap.size) (x : OfR) (e : TypeId) : Ofs (w.alloc (.cells #[.int .i8 x.1, .int .i64 x.2.1, .int .i8 x.2.2.1, .int .i64 x.2.2.2.1, .int .i64 x.2.2.2.2.1, .int .i64 x.2.2.2.2.2, .string ⟨#[]⟩, .int .i64 0, .int .i64 0] e)) (g + 1) (some ⟨g, 0, none⟩) 1 [x] := Recs.new_at encOf_len w g hg [x] 1 rfl _ rfl e
theorem Ofs.new2 (w : World) (g : Nat) (hg : g = w.heap.size) (x y : OfR) (e : TypeId) : Ofs (w.alloc (.cells #[.int .i8 x.1, .int .i64 x.2.1, .int .i8 x.2.2.1, .int .i64 x.2.2.2.1, .int .i64 x.2.2.2.2.1, .int .i64 x.2.2.2.2.2, .string ⟨#[]⟩, .int .i64 0, .int .i64 0, .int .i8 y.1, .int .i64 y.2.1, .int .i8 y.2.2.1, .int .i64 y.2.2.2.1, .int .i64 y.2.2.2.2.1, .int .i64 y.2.2.2.2.2, .string ⟨#[]⟩, .int .i64 0, .int .i64 0] e)) (g + 1) (some ⟨g, 0, none⟩) 2 [x, y] := Recs.new_at encOf_len w g hg [x, y] 2 rfl _ rfl e
theorem Cas.new1 (w : World) (g : Nat) (hg : g = w.heap.size) (x : Ca) (e : TypeId) : Cas (w.alloc (.cells #[.int .i64 x.id, .int .i64 x.done, .int .i8 x.op, .int .i64 x.owner, .int .i64 x.sock, .slice x.A x.n x.c, .int .i8 x.st, .int .i64 x.i, .int .i64 x.rt, .int .i64 x.rs, .int .i64 x.re] e)) (g + 1) (some ⟨g, 0, none⟩) 1 [x] := Recs.new_at encCa_len w g hg [x] 1 rfl _ rfl e
/-- The client at block g: the caller x, the deeds (D, dn, dc). -/
def Cl (w : World) (g : Nat) (x : Ca) (D : Option Addr) (dn dc : Nat) : Prop := w.heap[g]? = some (.cells #[.int .i64 x.id, .int .i64 x.done, .int .i8 x.op, .int .i64 x.owner, .int .i64 x.sock, .slice x.A x.n x.c, .int .i8 x.st, .int .i64 x.i, .int .i64 x.rt, .int .i64 x.rs, .int .i64 x.re, .slice D dn dc] 59 (0, 0))
theorem Cl.lt {w : World} {g : Nat} {x : Ca} {D : Option Addr} {dn dc : Nat} (h : Cl w g x D dn dc) : g < w.heap.size := (Array.getElem?_eq_some_iff.1 h).1
theorem Cl.below {w w' : World} {g : Nat} {x : Ca} {D : Option Addr} {dn dc B : Nat} (h : Cl w g x D dn dc) (hb : Below B w w') (hg : g < B) : Cl w' g x D dn dc := (hb.block g hg).trans h
theorem Cl.cells {w : World} {g : Nat} {x : Ca} {D : Option Addr} {dn dc : Nat} (h : Cl w g x D dn dc) : w.cell? ⟨g, 0, none⟩ = some (.int .i64 x.id) ∧ w.cell? ⟨g, 1, none⟩ = some (.int .i64 x.done) ∧ w.cell? ⟨g, 2, none⟩ = some (.int .i8 x.op) ∧ w.cell? ⟨g, 3, none⟩ = some (.int .i64 x.owner) ∧ w.cell? ⟨g, 4, none⟩ = some (.int .i64 x.sock) ∧ w.cell? ⟨g, 5, none⟩ = some (.slice x.A x.n x.c) ∧ w.cell? ⟨g, 6, none⟩ = some (.int .i8 x.st) ∧ w.cell? ⟨g, 7, none⟩ = some (.int .i64 x.i) ∧ w.cell? ⟨g, 8, none⟩ = some (.int .i64 x.rt) ∧ w.cell? ⟨g, 9, none⟩ = some (.int .i64 x.rs) ∧ w.cell? ⟨g, 10, none⟩ = some (.int .i64 x.re) ∧ w.cell? ⟨g, 11, none⟩ = some (.slice D dn dc) := by
  unfold Cl at h
  exact ⟨by simp [World.cell?, h], by simp [World.cell?, h], by simp [World.cell?, h], by simp [World.cell?, h], by simp [World.cell?, h], by simp [World.cell?, h], by simp [World.cell?, h], by simp [World.cell?, h], by simp [World.cell?, h], by simp [World.cell?, h], by simp [World.cell?, h], by simp [World.cell?, h]⟩
theorem Cl.free {w : World} {g : Nat} {x : Ca} {D : Option Addr} {dn dc : Nat} (h : Cl w g x D dn dc) : w.frozen? ⟨g, 6, none⟩ = false ∧ w.frozen? ⟨g, 7, none⟩ = false ∧ w.frozen? ⟨g, 8, none⟩ = false ∧ w.frozen? ⟨g, 9, none⟩ = false ∧ w.frozen? ⟨g, 10, none⟩ = false ∧ w.frozen? ⟨g, 11, none⟩ = false ∧ w.frozen? ⟨g, 5, none⟩ = false := by
  unfold Cl at h
  exact ⟨by simp [World.frozen?, h], by simp [World.frozen?, h], by simp [World.frozen?, h], by simp [World.frozen?, h], by simp [World.frozen?, h], by simp [World.frozen?, h], by simp [World.frozen?, h]⟩
theorem Cl.set6 {w : World} {g : Nat} {x : Ca} {D : Option Addr} {dn dc : Nat} (h : Cl w g x D dn dc) (v : Int) : Cl (w.setCell ⟨g, 6, none⟩ (.int .i8 v)) g { x with st := v } D dn dc := by unfold Cl at h ⊢; simp [World.setCell, Array.getElem?_modify, h]
theorem Cl.set7 {w : World} {g : Nat} {x : Ca} {D : Option Addr} {dn dc : Nat} (h : Cl w g x D dn dc) (v : Int) : Cl (w.setCell ⟨g, 7, none⟩ (.int .i64 v)) g { x with i := v } D dn dc := by unfold Cl at h ⊢; simp [World.setCell, Array.getElem?_modify, h]
theorem Cl.set8 {w : World} {g : Nat} {x : Ca} {D : Option Addr} {dn dc : Nat} (h : Cl w g x D dn dc) (v : Int) : Cl (w.setCell ⟨g, 8, none⟩ (.int .i64 v)) g { x with rt := v } D dn dc := by unfold Cl at h ⊢; simp [World.setCell, Array.getElem?_modify, h]
theorem Cl.set9 {w : World} {g : Nat} {x : Ca} {D : Option Addr} {dn dc : Nat} (h : Cl w g x D dn dc) (v : Int) : Cl (w.setCell ⟨g, 9, none⟩ (.int .i64 v)) g { x with rs := v } D dn dc := by unfold Cl at h ⊢; simp [World.setCell, Array.getElem?_modify, h]
theorem Cl.set10 {w : World} {g : Nat} {x : Ca} {D : Option Addr} {dn dc : Nat} (h : Cl w g x D dn dc) (v : Int) : Cl (w.setCell ⟨g, 10, none⟩ (.int .i64 v)) g { x with re := v } D dn dc := by unfold Cl at h ⊢; simp [World.setCell, Array.getElem?_modify, h]
theorem Cl.set11 {w : World} {g : Nat} {x : Ca} {D D' : Option Addr} {dn dc dn' dc' : Nat} (h : Cl w g x D dn dc) : Cl (w.setCell ⟨g, 11, none⟩ (.slice D' dn' dc')) g x D' dn' dc' := by unfold Cl at h ⊢; simp [World.setCell, Array.getElem?_modify, h]
theorem Cl.set5 {w : World} {g : Nat} {x : Ca} {D A' : Option Addr} {dn dc n' c' : Nat} (h : Cl w g x D dn dc) : Cl (w.setCell ⟨g, 5, none⟩ (.slice A' n' c')) g { x with A := A', n := n', c := c' } D dn dc := by unfold Cl at h ⊢; simp [World.setCell, Array.getElem?_modify, h]

/-- The number of a duct. -/
def ofD (p q : Int) : Int := if p < 0 then -1 else wrap64 (wrap64 (p * 5) + q)
theorem ofD_of {p q : Int} (h0 : 0 ≤ p) (h1 : p ≤ 1099511627776) (h2 : 0 ≤ q) (h3 : q < 5) : ofD p q = p * 5 + q := by
  unfold ofD
  rw [if_neg (by omega)]
  have e1 : wrap64 (p * 5) = p * 5 := by unfold wrap64; omega
  rw [e1]
  unfold wrap64
  omega
end Go.Proofs.Ytamfbbmkkhcnpaa
