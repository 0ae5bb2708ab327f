/-
  An ideal that answers (ideal.pool) in memory: its row, its lists, the rows that it appends to. Conditions: none.
-/
import Derived.Test.YthjanhfjehccoaaPoolPlain
import Derived.Test.YthjanhfjehccoaaOwn
import Derived.Test.YthjanhfjehccoaaFuncsI
import Derived.Test.YthjanhfjehccoaaSlicesI2
namespace Go.Proofs.Ythjanhfjehccoaa
set_option linter.unusedVariables false
set_option linter.unusedSimpArgs false
open Go.RowKit

def encRp (x : Rpl) : List Value := [.int .i64 x.1, .int .i64 x.2.1, .int .i64 x.2.2]
theorem encRp_len (x : Rpl) : (encRp x).length = 3 := rfl
theorem encRp_one (x : Rpl) (u : Value) (h : u ∈ encRp x) : u.oneCell' = true := by
  simp only [encRp, List.mem_cons, List.not_mem_nil, or_false] at h
  rcases h with rfl | rfl | rfl <;> rfl
theorem infoRp : (Try.prog.info? 65).map (fun i => (i.zero, i.size, i.bytes)) = some (some (.agg #[.int .i64 0, .int .i64 0, .int .i64 0]), 3, 24) := by kernel_rfl
theorem encRp_oneCell (l : List Rpl) : ∀ u ∈ l.flatMap encRp, u.oneCell' = true := by
  intro u hu
  obtain ⟨x, _, hx⟩ := List.mem_flatMap.1 hu
  exact encRp_one x u hx
abbrev Rps (w : World) (B : Nat) (A : Option Addr) (n : Nat) (xs : List Rpl) : Prop := Recs encRp 3 w B A n xs
abbrev OwRp (w : World) (base : Nat) (A : Option Addr) (n c : Nat) (xs : List Rpl) : Prop := OwR encRp 3 w base 65 A n c xs
theorem wpList_appRp (w : World) {ops : Array Oper} {rest : List Oper} {o : Oper} {a : Act} {Q : Exit → Act → World → Prop} (hgd : o.guard = none) (s x : Operand)
    (ho : o.op = .call { callee := .builtin .append, args := #[s, x], argTypes := #[36, 36] })
    (base : Nat) (A : Option Addr) (n c : Nat) (l : List Rpl) (hsv : a.eval s = .slice A n c) (hown : OwRp w base A n c l)
    (B : Nat) (A2 : Option Addr) (m c2 : Nat) (l2 : List Rpl) (hxv : a.eval x = .slice A2 m c2) (hs : Rps w B A2 m l2) (hb : n + m ≤ 1000000) (hbase : base ≤ w.heap.size)
    (h : ∀ A' c' w', OwRp w' base A' (n + m) c' (l ++ l2) → w.grownBy w' (rowOf A c) → (rowOf A' c' = rowOf A c ∨ (rowOf A' c' = some w.heap.size ∧ 0 < m)) →
      wpList Try.prog ops Q rest (a.put o.dst (.slice A' (n + m) c')) w') : wpList Try.prog ops Q (o :: rest) a w := by
  obtain ⟨i0, hi0, hz0, hz1, hz2⟩ := info_parts infoRp
  refine wpList_append_Ow w hgd s x 36 ho base 65 i0 _ 3 24 Try.underlying36 hi0 hz0 hz1 hz2 rfl (by decide) A n c _ hsv hown.2 B A2 m c2 _ hxv hs.2 (encRp_oneCell _) (by unfold maxLen; omega) (by omega) hbase ?_
  intro A' c' w' h1 h2 h3
  exact h A' c' w' ⟨by rw [List.length_append, hown.1, hs.1], by rw [List.flatMap_append]; exact h1⟩ h2 h3
theorem step_appRp {ops : Array Oper} {o : Oper} {a : Act} {w : World} {K : Act → World → Prop} {Q : Exit → Act → World → Prop} {E : Prop} (hgd : o.guard = none) (s x : Operand)
    (ho : o.op = .call { callee := .builtin .append, args := #[s, x], argTypes := #[36, 36] })
    (base : Nat) (A : Option Addr) (n c : Nat) (l : List Rpl) (hsv : a.eval s = .slice A n c) (hown : OwRp w base A n c l)
    (B : Nat) (A2 : Option Addr) (m c2 : Nat) (l2 : List Rpl) (hxv : a.eval x = .slice A2 m c2) (hs : Rps w B A2 m l2) (hb : n + m ≤ 1000000) (hbase : base ≤ w.heap.size)
    (h : ∀ A' c' w', OwRp w' base A' (n + m) c' (l ++ l2) → w.grownBy w' (rowOf A c) → (rowOf A' c' = rowOf A c ∨ (rowOf A' c' = some w.heap.size ∧ 0 < m)) → K (a.put o.dst (.slice A' (n + m) c')) w') :
    if Region.wanted o (yielded ops a.tmps) = true then Oper.wp Try.prog o a w K Q else E := by
  obtain ⟨i0, hi0, hz0, hz1, hz2⟩ := info_parts infoRp
  refine step_append_Ow hgd s x 36 ho base 65 i0 _ 3 24 Try.underlying36 hi0 hz0 hz1 hz2 rfl (by decide) A n c _ hsv hown.2 B A2 m c2 _ hxv hs.2 (encRp_oneCell _) (by unfold maxLen; omega) (by omega) hbase ?_
  intro A' c' w' h1 h2 h3
  exact h A' c' w' ⟨by rw [List.length_append, hown.1, hs.1], by rw [List.flatMap_append]; exact h1⟩ h2 h3
/-- Where the lists of a pool lie. -/
structure PlA where
  fA : Option Addr
  fc : Nat
  oA : Option Addr
  oc : Nat
  lA : Option Addr
  lc : Nat
  dA : Option Addr
  dc : Nat
  rA : Option Addr
  rc : Nat
  sA : Option Addr
  sc : Nat
def plCells (x : Pol) (a : PlA) : Array Value :=
  #[.int .i64 x.i.cf.1, .int .i64 x.i.cf.2.1, .int .i64 x.i.cf.2.2.1, .int .i64 x.i.cf.2.2.2.1, .int .i64 x.i.cf.2.2.2.2.1, .int .i64 x.i.cf.2.2.2.2.2.1, .int .i64 x.i.cf.2.2.2.2.2.2.1, .int .i64 x.i.cf.2.2.2.2.2.2.2.1, .int .i64 x.i.cf.2.2.2.2.2.2.2.2,
    .slice a.fA x.i.free.length a.fc, .slice a.oA x.i.out.length a.oc, .slice a.lA x.i.line.length a.lc, .bool x.i.on, .bool x.i.cut, .bool x.i.closed,
    .int .i8 x.p.kind, .int .i64 x.p.at_, .int .i64 x.p.clock, .int .i64 x.p.owner, .int .i64 x.p.caller, .int .i64 x.p.sock, .bool x.p.keep, .int .i64 x.p.e, .string x.p.bad, .slice a.dA x.p.dead.length a.dc,
    .slice a.rA x.p.rep.length a.rc, .slice a.sA x.p.shut.length a.sc, .bool x.p.start, .bool x.p.cut]
def PlRow (w : World) (g : Nat) (x : Pol) (a : PlA) : Prop := w.heap[g]? = some (.cells (plCells x a) 88 (0, 0))
section
variable {w w' : World} {g : Nat} {x y : Pol} {a b : PlA}
theorem PlRow.lt (h : PlRow w g x a) : g < w.heap.size := (Array.getElem?_eq_some_iff.1 h).1
theorem PlRow.block (h : PlRow w g x a) (hb : w'.heap[g]? = w.heap[g]?) : PlRow w' g x a := hb.trans h
theorem PlRow.cell (h : PlRow w g x a) {i : Nat} {v : Value} (hv : (plCells x a)[i]? = some v) : w.cell? ⟨g, i, none⟩ = some v := by
  unfold PlRow at h
  simp only [World.cell?, h]
  exact hv
theorem PlRow.free (h : PlRow w g x a) (i : Nat) : w.frozen? ⟨g, i, none⟩ = false := by
  unfold PlRow at h
  simp [World.frozen?, h]
theorem PlRow.set (h : PlRow w g x a) (i : Nat) (v : Value) (hy : (plCells x a).setIfInBounds i v = plCells y b) : PlRow (w.setCell ⟨g, i, none⟩ v) g y b := by
  unfold PlRow at h ⊢
  simp only [World.setCell, Array.getElem?_modify, h, if_true, Option.map_some]
  rw [hy]
  rfl
end
/-- Blocks of others that a pool's lists are kept out of: none, where nothing else is said. -/
structure Ex where
  xs : List Nat
instance : Inhabited Ex := ⟨⟨[]⟩⟩
def exs [Inhabited Ex] : List Nat := (default : Ex).xs
/-- The blocks that a pool writes; the two ahead of its own row are the answer's. -/
def plOwn [Inhabited Ex] (g : Nat) (a : PlA) : List Nat := g :: ((rowOf a.rA a.rc).toList ++ ((rowOf a.sA a.sc).toList ++ ((g - 1) :: (g - 2) :: exs)))
def PlLists (x : Pol) (a : PlA) (w : World) : Prop :=
  Res w w.heap.size a.fA x.i.free.length x.i.free ∧ Ints w w.heap.size a.oA x.i.out.length x.i.out ∧ Ints w w.heap.size a.lA x.i.line.length x.i.line ∧ Ints w w.heap.size a.dA x.p.dead.length x.p.dead
/-- What a slice may be: within its room; without memory it has none. -/
def PlCaps (x : Pol) (a : PlA) : Prop := (x.i.free.length ≤ a.fc ∧ (a.fA = none → a.fc = 0)) ∧ (x.i.out.length ≤ a.oc ∧ (a.oA = none → a.oc = 0)) ∧ (x.i.line.length ≤ a.lc ∧ (a.lA = none → a.lc = 0))
def Stay (F : Nat → Prop) (w' : World) (P : World → Prop) : Prop := ∀ w'' : World, w'.heap.size ≤ w''.heap.size → (∀ b, b < w'.heap.size → F b → w''.heap[b]? = w'.heap[b]?) → P w''
theorem Stay.at_ {F : Nat → Prop} {w : World} {P : World → Prop} (h : Stay F w P) : P w := h w (Nat.le_refl _) fun _ _ _ => rfl
theorem Stay.step {F : Nat → Prop} {W W' : World} {P : World → Prop} (h : Stay F W P) (hs : W.heap.size ≤ W'.heap.size) (hb : ∀ b, b < W.heap.size → F b → W'.heap[b]? = W.heap[b]?) : Stay F W' P :=
  fun w'' hs2 hb2 => h w'' (Nat.le_trans hs hs2) fun b h1 h2 => (hb2 b (Nat.lt_of_lt_of_le h1 hs) h2).trans (hb b h1 h2)
/-- The pool x lies at g; it appends to rows among the blocks from base on; its lists lie in other blocks. -/
structure PlIs [Inhabited Ex] (base : Nat) (w : World) (g : Nat) (x : Pol) (a : PlA) : Prop where
  row : PlRow w g x a
  rep : OwRp w base a.rA x.p.rep.length a.rc x.p.rep
  sh : OwI w base 3 a.sA x.p.shut.length a.sc x.p.shut
  lists : Stay (fun b => b ∉ plOwn g a) w (PlLists x a)
  few : x.p.rep.length ≤ 1000 ∧ x.p.shut.length ≤ 1000
  gb : base ≤ g
  caps : PlCaps x a
  xlt : ∀ q ∈ exs, q < base
theorem PlIs.below [Inhabited Ex] {base g : Nat} {w w' : World} {x : Pol} {a : PlA} (h : PlIs base w g x a) (hb : Below w.heap.size w w') : PlIs base w' g x a :=
  ⟨(hb.block _ h.row.lt).trans h.row, OwR.below h.rep hb, OwI.below h.sh hb, h.lists.step hb.size fun b h1 _ => hb.block b h1, h.few, h.gb, h.caps, h.xlt⟩
end Go.Proofs.Ythjanhfjehccoaa
