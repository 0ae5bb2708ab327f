/-
  What probe.Top computes. Conditions: the slice arguments read as lists of at most 1000.
-/
import Derived.Test.YtfjhommmplencaaProbeIter
import Derived.RangeFuncBox
import Derived.Maps.AppendAt
import Derived.Laws.EntriesVeiled
import Derived.RegionTactic
namespace Go.Proofs.Ytfjhommmplencaa
open Go.RowKit Go.Shelf
attribute [local go_sem] Oper.semAt_some

theorem spent_exact (long now : Int) (A : Option Addr) (n c : Nat) (w : World) :
    Calls Try.prog 22 #[.int .i64 long, .int .i64 now, .slice A n c] w fun e w' => e = .returned (.func (.func 33) #[] #[.pointer (some ⟨w.heap.size + 1 + 1, 0, none⟩), .pointer (some ⟨w.heap.size, 0, none⟩), .pointer (some ⟨w.heap.size + 1, 0, none⟩)]) ∧
      w' = ((w.alloc (.cells #[.int .i64 long] 3)).alloc (.cells #[.int .i64 now] 3)).alloc (.cells #[.slice A n c] 29) := by
  go_enter Try.func22, Try.ntmps22
  go_wp2_with fail
  go_ret
  exact ⟨rfl, rfl⟩

theorem wpListIn_appI {F : Fence} {n' : Nat} (w : World) {ops : Array Oper} {rest : List Oper} {o : Oper} {a : Act} {Q : Exit → Act → World → Prop} (hgd : o.guard = none) (s x : Operand)
    (ho : o.op = .call { callee := .builtin .append, args := #[s, x], argTypes := #[29, 29] })
    (base : Nat) (A : Option Addr) (n c : Nat) (l : List Int) (hsv : a.eval s = .slice A n c) (hown : OwI w base 3 A n c l)
    (B : Nat) (A2 : Option Addr) (m c2 : Nat) (l2 : List Int) (hxv : a.eval x = .slice A2 m c2) (hs : Ints w B A2 m l2) (hb : n + m ≤ 1000000) (hbase : base ≤ w.heap.size)
    (h : ∀ A' c' w', OwI w' base 3 A' (n + m) c' (l ++ l2) → w.grownBy w' (rowOf A c) → (rowOf A' c' = rowOf A c ∨ (rowOf A' c' = some w.heap.size ∧ 0 < m)) →
      wpListIn F n' Try.prog ops Q rest (a.put o.dst (.slice A' (n + m) c')) w') : wpListIn F n' Try.prog ops Q (o :: rest) a w := by
  obtain ⟨i0, hi0, hz0, hz1, hz2⟩ := info_parts infoI
  obtain ⟨A', c', w', hrun, h2, h3, h4⟩ := run_append_Ow (P := Try.prog) w base 29 o.type 3 i0 (.int .i64 0) 1 8 Try.underlying29 hi0 hz0 hz1 hz2 rfl (by decide) A n c _ hown B A2 m c2 _ hs (int_oneCell _) (by unfold maxLen; omega) (by omega) hbase
  refine wpListIn_plain hgd fun K hK => ?_
  unfold Oper.wpIn
  refine ⟨?_, ?_⟩
  · simp [Oper.about, ho, resolve, Target.leads, Sem.run_pure]
  · rw [Oper.semAt_plain F _ _ (by rw [ho]; intro c hc'; cases hc')]
    simp [execOp, ho, resolve, invoke, builtin, hsv, hxv, hrun, Result.andThen]
    exact hK _ _ (h A' c' w' (by unfold OwI; rw [List.map_append]; exact h2) h3 h4)

/-- How many of a row's first k are left with the last good one among them: 0 of none. -/
def topN (dead : List Int) (long now : Int) (l : List Re) : Nat → Nat
  | 0 => 0
  | k + 1 => match l[k]? with
    | some x => if spentR dead long now x then topN dead long now l k else k + 1
    | none => topN dead long now l k
def topJ (l : List Re) (dead : List Int) (long now : Int) : Nat := topN dead long now l l.length
def topS (l : List Re) (j : Nat) : Int := if 0 < j then (l.getD (j - 1) (0, 0)).1 else -1
def topO (l : List Re) (j : Nat) : List Int := ((l.drop j).reverse).map (·.1)

theorem topN_skip {dead : List Int} {long now : Int} {l : List Re} {J : Nat} : ∀ k, J ≤ k → (∀ i x, J ≤ i → i < k → l[i]? = some x → spentR dead long now x = true) → topN dead long now l k = topN dead long now l J
  | 0, h, _ => by obtain rfl : J = 0 := by omega
                  rfl
  | k + 1, h, hall => by
    rcases Nat.lt_or_ge J (k + 1) with h1 | h1
    · have ih := topN_skip k (by omega) (fun i x h2 h3 hx => hall i x h2 (by omega) hx)
      rw [← ih]
      cases hx : l[k]? with
      | none => simp [topN, hx]
      | some x => simp [topN, hx, hall k x (by omega) (by omega) hx]
    · obtain rfl : J = k + 1 := by omega
      rfl
theorem topJ_of {dead : List Int} {long now : Int} {l : List Re} {J : Nat} (hJ : J ≤ l.length) (hall : ∀ i x, J ≤ i → l[i]? = some x → spentR dead long now x = true) (hlast : J = 0 ∨ ∃ x, l[J - 1]? = some x ∧ spentR dead long now x = false) : topJ l dead long now = J := by
  unfold topJ
  rw [topN_skip l.length hJ (fun i x h _ hx => hall i x h hx)]
  rcases hlast with rfl | ⟨x, hx, hp⟩
  · rfl
  · cases J with
    | zero => rfl
    | succ j =>
      rw [Nat.add_sub_cancel] at hx
      simp [topN, hx, hp]
theorem came_out {l : List Re} {ini : List (Bk l)} {J : Nat} (hlen : ini.length + J = l.length) (hc : ∀ j x, ini[j]? = some x → x.1.1 + j + 1 = l.length) : ini.map (fun x => x.1.2.1) = topO l J := by
  unfold topO
  apply List.ext_getElem?
  intro j
  rw [List.getElem?_map, List.getElem?_map]
  rcases Nat.lt_or_ge j ini.length with h | h
  · have h1 := hc j _ (List.getElem?_eq_getElem h)
    rw [List.getElem?_eq_getElem h, List.getElem?_reverse (by rw [List.length_drop]; omega), List.getElem?_drop, List.length_drop]
    have h2 := (ini[j]).2
    rw [show J + (l.length - J - 1 - j) = (ini[j]).1.1 by omega, h2]
    rfl
  · rw [List.getElem?_eq_none h, List.getElem?_eq_none (by rw [List.length_reverse, List.length_drop]; omega)]
    rfl
theorem came_all {l : List Re} {ini : List (Bk l)} {J : Nat} {dead : List Int} {long now : Int} (hlen : ini.length + J = l.length) (hc : ∀ j x, ini[j]? = some x → x.1.1 + j + 1 = l.length) (hall : ∀ x ∈ ini, spentR dead long now x.1.2 = true) :
    ∀ i x, J ≤ i → l[i]? = some x → spentR dead long now x = true := by
  intro i x hi hx
  have hil := (List.getElem?_eq_some_iff.1 hx).1
  have hj : l.length - 1 - i < ini.length := by omega
  have h1 := hc _ _ (List.getElem?_eq_getElem hj)
  have h2 := (ini[l.length - 1 - i]).2
  rw [show (ini[l.length - 1 - i]).1.1 = i by omega, hx] at h2
  injection h2 with h2
  rw [h2]
  exact hall _ (List.getElem_mem hj)

/-- The blocks that probe.Top made: its row, its results, its test. -/
structure TI (w : World) (A As : Option Addr) (n c ns cs : Nat) (long now : Int) (s r o k : Value) (W : World) : Prop where
  b0 : Boxed W w.heap.size 22 (.slice A n c)
  b1 : Boxed W (w.heap.size + 1) 3 s
  b2 : Boxed W (w.heap.size + 1 + 1) 22 r
  b3 : Boxed W (w.heap.size + 1 + 1 + 1) 29 o
  b4 : Boxed W (w.heap.size + 1 + 1 + 1 + 1) 4 k
  b5 : Boxed W (w.heap.size + 1 + 1 + 1 + 1 + 1) 3 (.int .i64 long)
  b6 : Boxed W (w.heap.size + 1 + 1 + 1 + 1 + 1 + 1) 3 (.int .i64 now)
  b7 : Boxed W (w.heap.size + 1 + 1 + 1 + 1 + 1 + 1 + 1) 29 (.slice As ns cs)
  b8 : Boxed W (w.heap.size + 1 + 1 + 1 + 1 + 1 + 1 + 1 + 1) 43 (.func (.func 33) #[] #[.pointer (some ⟨w.heap.size + 1 + 1 + 1 + 1 + 1 + 1 + 1, 0, none⟩), .pointer (some ⟨w.heap.size + 1 + 1 + 1 + 1 + 1, 0, none⟩), .pointer (some ⟨w.heap.size + 1 + 1 + 1 + 1 + 1 + 1, 0, none⟩)])
  b9 : Boxed W (w.heap.size + 1 + 1 + 1 + 1 + 1 + 1 + 1 + 1 + 1) 22 (.slice A n c)
  below : Below w.heap.size w W
theorem TI.size {w : World} {A As : Option Addr} {n c ns cs : Nat} {long now : Int} {s r o k : Value} {W : World} (h : TI w A As n c ns cs long now s r o k W) : w.heap.size + 10 ≤ W.heap.size := by have := h.b9.lt; omega
theorem TI.kept {w : World} {A As : Option Addr} {n c ns cs : Nat} {long now : Int} {s r o k : Value} {W W' : World} {row : Option Nat} (h : TI w A As n c ns cs long now s r o k W) (hg : W.grownBy W' row) (hr : ∀ q, row = some q → w.heap.size + 10 ≤ q) : TI w A As n c ns cs long now s r o k W' :=
  ⟨h.b0.kept hg (fun e => by have := hr _ e.symm; omega), h.b1.kept hg (fun e => by have := hr _ e.symm; omega), h.b2.kept hg (fun e => by have := hr _ e.symm; omega), h.b3.kept hg (fun e => by have := hr _ e.symm; omega), h.b4.kept hg (fun e => by have := hr _ e.symm; omega),
   h.b5.kept hg (fun e => by have := hr _ e.symm; omega), h.b6.kept hg (fun e => by have := hr _ e.symm; omega), h.b7.kept hg (fun e => by have := hr _ e.symm; omega), h.b8.kept hg (fun e => by have := hr _ e.symm; omega), h.b9.kept hg (fun e => by have := hr _ e.symm; omega),
   h.below.grown hg h.below.size (fun q e => by have := hr _ e; omega)⟩
theorem boxed_below {W W' : World} {B : Nat} {t : TypeId} {v : Value} (hb : Below W.heap.size W W') (h : Boxed W B t v) : Boxed W' B t v := (hb.block B h.lt).trans h
theorem TI.below_ {w : World} {A As : Option Addr} {n c ns cs : Nat} {long now : Int} {s r o k : Value} {W W' : World} (h : TI w A As n c ns cs long now s r o k W) (hb : Below W.heap.size W W') : TI w A As n c ns cs long now s r o k W' :=
  ⟨boxed_below hb h.b0, boxed_below hb h.b1, boxed_below hb h.b2, boxed_below hb h.b3, boxed_below hb h.b4, boxed_below hb h.b5, boxed_below hb h.b6, boxed_below hb h.b7, boxed_below hb h.b8, boxed_below hb h.b9, h.below.trans (hb.mono h.below.size)⟩
theorem TI.new (w : World) (A As : Option Addr) (n c ns cs : Nat) (long now : Int) (s r o k : Value) : TI w A As n c ns cs long now s r o k ((((((((((w.alloc (.cells #[.slice A n c] 22)).alloc (.cells #[s] 3)).alloc (.cells #[r] 22)).alloc (.cells #[o] 29)).alloc (.cells #[k] 4)).alloc (.cells #[.int .i64 long] 3)).alloc (.cells #[.int .i64 now] 3)).alloc (.cells #[.slice As ns cs] 29)).alloc (.cells #[.func (.func 33) #[] #[.pointer (some ⟨w.heap.size + 1 + 1 + 1 + 1 + 1 + 1 + 1, 0, none⟩), .pointer (some ⟨w.heap.size + 1 + 1 + 1 + 1 + 1, 0, none⟩), .pointer (some ⟨w.heap.size + 1 + 1 + 1 + 1 + 1 + 1, 0, none⟩)]] 43)).alloc (.cells #[.slice A n c] 22)) := by
  have h0 := Boxed.new w 22 (.slice A n c)
  have h1 := Boxed.new (w.alloc (.cells #[.slice A n c] 22)) 3 s
  have h2 := Boxed.new ((w.alloc (.cells #[.slice A n c] 22)).alloc (.cells #[s] 3)) 22 r
  have h3 := Boxed.new (((w.alloc (.cells #[.slice A n c] 22)).alloc (.cells #[s] 3)).alloc (.cells #[r] 22)) 29 o
  have h4 := Boxed.new ((((w.alloc (.cells #[.slice A n c] 22)).alloc (.cells #[s] 3)).alloc (.cells #[r] 22)).alloc (.cells #[o] 29)) 4 k
  have h5 := Boxed.new (((((w.alloc (.cells #[.slice A n c] 22)).alloc (.cells #[s] 3)).alloc (.cells #[r] 22)).alloc (.cells #[o] 29)).alloc (.cells #[k] 4)) 3 (.int .i64 long)
  have h6 := Boxed.new ((((((w.alloc (.cells #[.slice A n c] 22)).alloc (.cells #[s] 3)).alloc (.cells #[r] 22)).alloc (.cells #[o] 29)).alloc (.cells #[k] 4)).alloc (.cells #[.int .i64 long] 3)) 3 (.int .i64 now)
  have h7 := Boxed.new (((((((w.alloc (.cells #[.slice A n c] 22)).alloc (.cells #[s] 3)).alloc (.cells #[r] 22)).alloc (.cells #[o] 29)).alloc (.cells #[k] 4)).alloc (.cells #[.int .i64 long] 3)).alloc (.cells #[.int .i64 now] 3)) 29 (.slice As ns cs)
  have h8 := Boxed.new ((((((((w.alloc (.cells #[.slice A n c] 22)).alloc (.cells #[s] 3)).alloc (.cells #[r] 22)).alloc (.cells #[o] 29)).alloc (.cells #[k] 4)).alloc (.cells #[.int .i64 long] 3)).alloc (.cells #[.int .i64 now] 3)).alloc (.cells #[.slice As ns cs] 29)) 43 (.func (.func 33) #[] #[.pointer (some ⟨w.heap.size + 1 + 1 + 1 + 1 + 1 + 1 + 1, 0, none⟩), .pointer (some ⟨w.heap.size + 1 + 1 + 1 + 1 + 1, 0, none⟩), .pointer (some ⟨w.heap.size + 1 + 1 + 1 + 1 + 1 + 1, 0, none⟩)])
  have h9 := Boxed.new (((((((((w.alloc (.cells #[.slice A n c] 22)).alloc (.cells #[s] 3)).alloc (.cells #[r] 22)).alloc (.cells #[o] 29)).alloc (.cells #[k] 4)).alloc (.cells #[.int .i64 long] 3)).alloc (.cells #[.int .i64 now] 3)).alloc (.cells #[.slice As ns cs] 29)).alloc (.cells #[.func (.func 33) #[] #[.pointer (some ⟨w.heap.size + 1 + 1 + 1 + 1 + 1 + 1 + 1, 0, none⟩), .pointer (some ⟨w.heap.size + 1 + 1 + 1 + 1 + 1, 0, none⟩), .pointer (some ⟨w.heap.size + 1 + 1 + 1 + 1 + 1 + 1, 0, none⟩)]] 43)) 22 (.slice A n c)
  simp only [World.size_alloc] at h1 h2 h3 h4 h5 h6 h7 h8 h9
  exact ⟨((((((((h0.alloc _).alloc _).alloc _).alloc _).alloc _).alloc _).alloc _).alloc _).alloc _, (((((((h1.alloc _).alloc _).alloc _).alloc _).alloc _).alloc _).alloc _).alloc _, ((((((h2.alloc _).alloc _).alloc _).alloc _).alloc _).alloc _).alloc _, (((((h3.alloc _).alloc _).alloc _).alloc _).alloc _).alloc _, ((((h4.alloc _).alloc _).alloc _).alloc _).alloc _, (((h5.alloc _).alloc _).alloc _).alloc _, ((h6.alloc _).alloc _).alloc _, (h7.alloc _).alloc _, h8.alloc _, h9,
    (((((((((Below.new_ w _).alloc (by first | omega | (simp; done) | (simp; omega)) _).alloc (by first | omega | (simp; done) | (simp; omega)) _).alloc (by first | omega | (simp; done) | (simp; omega)) _).alloc (by first | omega | (simp; done) | (simp; omega)) _).alloc (by first | omega | (simp; done) | (simp; omega)) _).alloc (by first | omega | (simp; done) | (simp; omega)) _).alloc (by first | omega | (simp; done) | (simp; omega)) _).alloc (by first | omega | (simp; done) | (simp; omega)) _).alloc (by first | omega | (simp; done) | (simp; omega)) _⟩
theorem TI.caps {w : World} {A As : Option Addr} {n c ns cs : Nat} {long now : Int} {s r o k : Value} {W : World} (h : TI w A As n c ns cs long now s r o k W) {dead : List Int} (hs : Ints w w.heap.size As ns dead) (hns : ns ≤ 1000) :
    SpentCaps W #[.pointer (some ⟨w.heap.size + 1 + 1 + 1 + 1 + 1 + 1 + 1, 0, none⟩), .pointer (some ⟨w.heap.size + 1 + 1 + 1 + 1 + 1, 0, none⟩), .pointer (some ⟨w.heap.size + 1 + 1 + 1 + 1 + 1 + 1, 0, none⟩)] dead long now :=
  ⟨_, _, _, As, ns, cs, rfl, h.b7.cell, h.b5.cell, h.b6.cell, (hs.below h.below).more h.below.size, hns⟩
theorem TI.set_s {w : World} {A As : Option Addr} {n c ns cs : Nat} {long now : Int} {s r o k : Value} {W : World} (h : TI w A As n c ns cs long now s r o k W) (v : Value) : TI w A As n c ns cs long now v r o k (W.setCell ⟨w.heap.size + 1, 0, none⟩ v) :=
  ⟨h.b0.other (by omega) v, h.b1.set v, h.b2.other (by omega) v, h.b3.other (by omega) v, h.b4.other (by omega) v, h.b5.other (by omega) v, h.b6.other (by omega) v, h.b7.other (by omega) v, h.b8.other (by omega) v, h.b9.other (by omega) v, h.below.setCell (p := ⟨w.heap.size + 1, 0, none⟩) (by simp) v⟩
theorem TI.set_r {w : World} {A As : Option Addr} {n c ns cs : Nat} {long now : Int} {s r o k : Value} {W : World} (h : TI w A As n c ns cs long now s r o k W) (v : Value) : TI w A As n c ns cs long now s v o k (W.setCell ⟨w.heap.size + 1 + 1, 0, none⟩ v) :=
  ⟨h.b0.other (by omega) v, h.b1.other (by omega) v, h.b2.set v, h.b3.other (by omega) v, h.b4.other (by omega) v, h.b5.other (by omega) v, h.b6.other (by omega) v, h.b7.other (by omega) v, h.b8.other (by omega) v, h.b9.other (by omega) v, h.below.setCell (p := ⟨w.heap.size + 1 + 1, 0, none⟩) (by simp; omega) v⟩
theorem TI.set_o {w : World} {A As : Option Addr} {n c ns cs : Nat} {long now : Int} {s r o k : Value} {W : World} (h : TI w A As n c ns cs long now s r o k W) (v : Value) : TI w A As n c ns cs long now s r v k (W.setCell ⟨w.heap.size + 1 + 1 + 1, 0, none⟩ v) :=
  ⟨h.b0.other (by omega) v, h.b1.other (by omega) v, h.b2.other (by omega) v, h.b3.set v, h.b4.other (by omega) v, h.b5.other (by omega) v, h.b6.other (by omega) v, h.b7.other (by omega) v, h.b8.other (by omega) v, h.b9.other (by omega) v, h.below.setCell (p := ⟨w.heap.size + 1 + 1 + 1, 0, none⟩) (by simp; omega) v⟩
theorem TI.set_k {w : World} {A As : Option Addr} {n c ns cs : Nat} {long now : Int} {s r o k : Value} {W : World} (h : TI w A As n c ns cs long now s r o k W) (v : Value) : TI w A As n c ns cs long now s r o v (W.setCell ⟨w.heap.size + 1 + 1 + 1 + 1, 0, none⟩ v) :=
  ⟨h.b0.other (by omega) v, h.b1.other (by omega) v, h.b2.other (by omega) v, h.b3.other (by omega) v, h.b4.set v, h.b5.other (by omega) v, h.b6.other (by omega) v, h.b7.other (by omega) v, h.b8.other (by omega) v, h.b9.other (by omega) v, h.below.setCell (p := ⟨w.heap.size + 1 + 1 + 1 + 1, 0, none⟩) (by simp; omega) v⟩
theorem TI.drew {w : World} {A As : Option Addr} {n c ns cs : Nat} {long now : Int} {s r o k : Value} {W : World} (h : TI w A As n c ns cs long now s r o k W) : TI w A As n c ns cs long now s r o k W.drew := ⟨h.b0, h.b1, h.b2, h.b3, h.b4, h.b5, h.b6, h.b7, h.b8, h.b9, h.below.drew⟩
theorem TI.alloc {w : World} {A As : Option Addr} {n c ns cs : Nat} {long now : Int} {s r o k : Value} {W : World} (h : TI w A As n c ns cs long now s r o k W) (x : Obj) : TI w A As n c ns cs long now s r o k (W.alloc x) := h.below_ (Below.new_ W x)
theorem TI.kp {w : World} {A As : Option Addr} {n c ns cs : Nat} {long now : Int} {s r o k s' r' o' k' : Value} {W W' : World} (h : TI w A As n c ns cs long now s r o k W) (h' : TI w A As n c ns cs long now s' r' o' k' W') (hb : Below w.heap.size W W') : KpB w.heap.size (w.heap.size + 1 + 1 + 1 + 1 + 1 + 1 + 1 + 1 + 1) W W' :=
  ⟨hb, fun v hv => by rw [h.b9.cell] at hv; injection hv with hv; subst hv; exact h'.b9.cell⟩
theorem keepsFrom_below {B : Nat} {W W' : World} (hb : Below W.heap.size W W') : KeepsFrom B W W' := ⟨hb.size, fun k o _ hk _ => (hb.block k (Array.getElem?_eq_some_iff.1 hk).1).trans hk⟩
theorem keepsFrom_drew {B : Nat} (W : World) : KeepsFrom B W W.drew := ⟨Nat.le_refl _, fun _ _ _ h _ => h⟩
theorem Ow.row_cells {W : World} {base : Nat} {e : TypeId} {k n c : Nat} {A : Option Addr} {xs : List Value} (h : Ow W base e k A n c xs) : ∀ (j : Nat) (o : Obj), rowOf A c = some j → W.heap[j]? = some o → o.isCells = true := by
  intro j o hj ho
  rcases h.2.2.2 with h0 | ⟨g, cur, rfl, _, hh, _⟩
  · simp [rowOf, h0] at hj
  · by_cases hc : c = 0
    · simp [rowOf, hc] at hj
    · simp [rowOf, hc] at hj
      subst hj
      rw [hh] at ho
      injection ho with ho
      subst ho
      rfl
theorem Recs.take1 {α : Type} {enc : α → List Value} {k : Nat} (hk : ∀ x, (enc x).length = k) {w : World} {B n c : Nat} {A : Option Addr} {xs : List α} (h : Recs enc k w B A n xs) (hc : c ≤ n) : Recs enc k w B A c (xs.take c) := by
  have hl := h.1
  refine ⟨by rw [List.length_take]; omega, by rw [flatMap_len hk, List.length_take, Nat.min_eq_left (by omega)], fun h0 hk0 => ?_⟩
  obtain ⟨b, off, e, hb, hcell⟩ := h.2.2 (by omega) hk0
  refine ⟨b, off, e, hb, fun j u hu => hcell j u ?_⟩
  have hp : xs.flatMap enc = (xs.take c).flatMap enc ++ (xs.drop c).flatMap enc := by rw [← List.flatMap_append, List.take_append_drop]
  rw [hp, List.getElem?_append_left (List.getElem?_eq_some_iff.1 hu).1]
  exact hu
theorem Ow.from_ {W W' : World} {base : Nat} {e : TypeId} {k n c : Nat} {A : Option Addr} {xs : List Value} {row : Option Nat} (h : Ow W base e k A n c xs) (hg : W.grownBy W' row) (hr : ∀ r, row = some r → ∃ o : Obj, W.heap[r]? = some o ∧ o.isCells = false) : Ow W' base e k A n c xs := by
  refine Ow.kept h hg ?_
  rcases h.2.2.2 with h0 | ⟨g, cur, rfl, _, hh, _⟩
  · exact .inl (by simp [rowOf, h0])
  · by_cases hc : c = 0
    · exact .inl (by simp [rowOf, hc])
    · right
      intro e'
      obtain ⟨o, ho, ho2⟩ := hr g (by rw [← e']; simp [rowOf, hc])
      rw [hh] at ho
      injection ho with ho
      subst ho
      cases ho2

set_option maxRecDepth 100000 in
set_option maxHeartbeats 4000000 in
theorem Top_any (A : Option Addr) (n c : Nat) (l : List Re) (long now : Int) (As : Option Addr) (ns cs : Nat) (dead : List Int) (w : World) (hl : Res w w.heap.size A n l) (hn : n ≤ 1000) (hnc : n ≤ c) (hs : Ints w w.heap.size As ns dead) (hns : ns ≤ 1000) :
    Calls Try.prog 11 #[.slice A n c, .int .i64 long, .int .i64 now, .slice As ns cs] w fun e w' => ∃ A1 c1 A2 c2, e = .returned (.tuple #[.int .i64 (topS l (topJ l dead long now)), .slice A1 (topJ l dead long now - 1) c1, .slice A2 (n - topJ l dead long now) c2, .bool (decide (0 < topJ l dead long now))]) ∧
      OwRe w' w.heap.size A1 (topJ l dead long now - 1) c1 (l.take (topJ l dead long now - 1)) ∧ OwI w' w.heap.size 3 A2 (n - topJ l dead long now) c2 (topO l (topJ l dead long now)) ∧ Below w.heap.size w w' := by
  have HL := Lib.hid hl.1
  refine (callsIn_wide (n := 3)).1 ?_
  refine callsIn_of_wp_marks Try.func11 rfl trivial ?_ rfl
  simp only [Try.ntmps11, List.size_toArray, List.length_cons, List.length_nil, Nat.reduceAdd, Nat.reduceSub, Array.replicate_succ, Array.replicate_zero, List.push_toArray, List.append_toArray, List.nil_append, List.cons_append]
  refine wpIn_wide.2 ?_
  go_wp2
  go_step3
  go_wp2_with (first | (go_at_call 22; refine (spent_exact _ _ _ _ _ _).mono ?_; rintro e w' ⟨rfl, rfl⟩))
  go_step3
  go_wp2_with (first | (go_at_call 23; refine (Backward_any _ _ _ _).mono ?_; rintro e w' ⟨rfl, rfl⟩))
  have hT := TI.new w A As n c ns cs long now (.int .i64 (-1)) (.slice none 0 0) (.slice none 0 0) (.bool false)
  have hz : ((((((((((w.alloc (.cells #[.slice A n c] 22)).alloc (.cells #[.int .i64 (-1)] 3)).alloc (.cells #[.slice none 0 0] 22)).alloc (.cells #[.slice none 0 0] 29)).alloc (.cells #[.bool false] 4)).alloc (.cells #[.int .i64 long] 3)).alloc (.cells #[.int .i64 now] 3)).alloc (.cells #[.slice As ns cs] 29)).alloc (.cells #[.func (.func 33) #[] #[.pointer (some ⟨w.heap.size + 1 + 1 + 1 + 1 + 1 + 1 + 1, 0, none⟩), .pointer (some ⟨w.heap.size + 1 + 1 + 1 + 1 + 1, 0, none⟩), .pointer (some ⟨w.heap.size + 1 + 1 + 1 + 1 + 1 + 1, 0, none⟩)]] 43)).alloc (.cells #[.slice A n c] 22)).heap.size = w.heap.size + 10 := by simp
  generalize ((((((((((w.alloc (.cells #[.slice A n c] 22)).alloc (.cells #[.int .i64 (-1)] 3)).alloc (.cells #[.slice none 0 0] 22)).alloc (.cells #[.slice none 0 0] 29)).alloc (.cells #[.bool false] 4)).alloc (.cells #[.int .i64 long] 3)).alloc (.cells #[.int .i64 now] 3)).alloc (.cells #[.slice As ns cs] 29)).alloc (.cells #[.func (.func 33) #[] #[.pointer (some ⟨w.heap.size + 1 + 1 + 1 + 1 + 1 + 1 + 1, 0, none⟩), .pointer (some ⟨w.heap.size + 1 + 1 + 1 + 1 + 1, 0, none⟩), .pointer (some ⟨w.heap.size + 1 + 1 + 1 + 1 + 1 + 1, 0, none⟩)]] 43)).alloc (.cells #[.slice A n c] 22)) = W0 at hT hz ⊢
  refine (wpIn_wide (n := 3)).1 ?_
  refine wpIn_rangeFunc_ownH (F := Fence.wide) (n := 3) rfl (by omega) (gf := 36) (lb := #[.pointer (some ⟨w.heap.size + 1 + 1 + 1 + 1 + 1 + 1 + 1 + 1 + 1, 0, none⟩)]) rfl trivial (enters_of Try.func36 (by kernel_rfl) rfl)
    (back_stops Fence.wide _ trivial rfl (by omega) _ w.heap.size A n c l hn W0 hT.b9.lt hT.below.size hT.b9.cell (hl.below hT.below)) KpB.trans ?kb (Below.refl _ _) (fun _ => rfl)
    (fun pre W => (∃ A' c', TI w A As n c ns cs long now (.int .i64 (-1)) (.slice none 0 0) (.slice A' pre.length c') (.bool false) W ∧ OwI W (w.heap.size + 10) 3 A' pre.length c' (pre.map (fun x => x.1.2.1))) ∧ ∀ x ∈ pre, spentR dead long now x.1.2 = true)
    (fun cc pre W => cc = .exit 0 ∧ ∃ ini last, pre = ini ++ [last] ∧ (∀ x ∈ ini, spentR dead long now x.1.2 = true) ∧ spentR dead long now last.1.2 = false ∧ ∃ A' c' A1 c1, TI w A As n c ns cs long now (.int .i64 last.1.2.1) (.slice A1 last.1.1 c1) (.slice A' ini.length c') (.bool true) W ∧ OwI W (w.heap.size + 10) 3 A' ini.length c' (ini.map (fun x => x.1.2.1)) ∧ OwRe W (w.heap.size + 10) A1 last.1.1 c1 (l.take last.1.1))
    ?own1 ?own2 ⟨⟨none, 0, hT, OwI.nil_ _ _ _ _⟩, by simp⟩
    (fun x a' W => ∃ Bx, w.heap.size + 10 ≤ Bx ∧ W.heap[Bx]? = some (.cells #[.int .i64 x.1.2.1, .int .i64 x.1.2.2] 26 (0, 0)) ∧ a' = { tmps := #[.slice A n c, .int .i64 long, .int .i64 now, .slice As ns cs, .pointer (some ⟨w.heap.size, 0, none⟩), undef, undef, undef, .pointer (some ⟨w.heap.size + 1, 0, none⟩), .pointer (some ⟨w.heap.size + 1 + 1, 0, none⟩), .pointer (some ⟨w.heap.size + 1 + 1 + 1, 0, none⟩), .pointer (some ⟨w.heap.size + 1 + 1 + 1 + 1, 0, none⟩), .pointer (some ⟨w.heap.size + 1 + 1 + 1 + 1 + 1 + 1 + 1 + 1, 0, none⟩), .int .i64 (x.1.1 : Int), .pointer (some ⟨Bx, 0, none⟩), .int .i64 long, .int .i64 now, .slice As ns cs, .func (.func 33) #[] #[.pointer (some ⟨w.heap.size + 1 + 1 + 1 + 1 + 1 + 1 + 1, 0, none⟩), .pointer (some ⟨w.heap.size + 1 + 1 + 1 + 1 + 1, 0, none⟩), .pointer (some ⟨w.heap.size + 1 + 1 + 1 + 1 + 1 + 1, 0, none⟩)], .slice A n c, .func (.func 36) #[] #[.pointer (some ⟨w.heap.size + 1 + 1 + 1 + 1 + 1 + 1 + 1 + 1 + 1, 0, none⟩)], .int .i64 (x.1.1 : Int), .agg #[.int .i64 x.1.2.1, .int .i64 x.1.2.2], undef, undef, undef, undef, undef, undef, undef, undef, undef, undef, undef, undef, undef, undef, undef, undef, undef, undef, undef], defers := [] })
    ?own3 ?assign ?body ?done ?stop
  case kb =>
    intro W l' o o' hl' h1 h2 _
    exact ⟨belowK_b hT.below.size W l' o o' hl' h1 h2 ‹_›, fun v hv => cell_kept hv (grownBy_putObj' W l' o') (fun r e => by cases e; exact ⟨_, h1, h2⟩)⟩
  case own1 =>
    rintro pre X Y row ⟨⟨A', c', h1, h2⟩, h3⟩ hg hr
    exact ⟨⟨A', c', h1.kept hg (fun q e => by have := (hr q e).1; omega), Ow.from_ h2 hg (fun r e => (hr r e).2)⟩, h3⟩
  case own2 =>
    rintro cc pre X Y row ⟨rfl, ini, last, e1, e2, e3, A', c', A1, c1, h1, h2, h3⟩ hg hr
    exact ⟨rfl, ini, last, e1, e2, e3, A', c', A1, c1, h1.kept hg (fun q e => by have := (hr q e).1; omega), Ow.from_ h2 hg (fun r e => (hr r e).2), ⟨h3.1, Ow.from_ h3.2 hg (fun r e => (hr r e).2)⟩⟩
  case own3 =>
    rintro x a' _ X Y row ⟨Bx, h1, h2, h3⟩ hg hr
    exact ⟨Bx, h1, (hg.block Bx (Array.getElem?_eq_some_iff.1 h2).1 (fun e => by obtain ⟨o, ho, hc⟩ := (hr Bx e.symm).2; rw [h2] at ho; cases ho; cases hc)).trans h2, h3⟩
  case assign =>
    rintro l' pre x W K ⟨⟨A', c', hT2, hO⟩, hall⟩ hK
    unfold encBk
    gi_wp2
    exact hK _ _ ((KeepsOthers.alloc _ _).from _) (hT2.kp (hT2.alloc _) ((Below.refl _ W).alloc hT2.below.size _)) ⟨⟨A', c', hT2.alloc _, hO.alloc _⟩, hall⟩ ⟨W.heap.size, hT2.size, heap_alloc_new W _, rfl⟩
  case body =>
    rintro l' pre x a' W hl' ⟨r, hr⟩ ⟨⟨A', c', hT2, hO⟩, hall⟩ ⟨Bx, hBx, hx, rfl⟩ hlt
    obtain ⟨x0, x1, _, _⟩ := two_cells hx
    have c8 := hT2.b8.cell
    have hcall := spentC_any x.1.2 _ dead long now W (hT2.caps hs hns)
    simp only [List.append_toArray, List.cons_append, List.nil_append] at hcall
    cases hp : spentR dead long now x.1.2
    · rw [hp] at hcall
      have HP := Lib.hid hp
      clear hp
      have hmx : Try.prog.follows .mixedOrders = true := by kernel_rfl
      have hxn : x.1.1 < n := by have h1 := (List.getElem?_eq_some_iff.1 x.2).1; rw [HL.out] at h1; exact h1
      have hrW := hl.below hT2.below
      obtain ⟨b, off, y, rfl, hbb, hy, _⟩ := Res.cells hrW hxn
      have i1 : (x.1.1 : Int) ≤ (c : Int) := by omega
      have i2 : x.1.1 ≤ c := by omega
      gi_wp2_with ((first | refine ⟨trivial, ?_⟩ | skip); gi_at_call 33; refine (CallsIn.inRound l' (callsIn_wide.2 hcall)).mono ?_; rintro e w2 ⟨rfl, hb2⟩; have hT3 := hT2.below_ hb2; have hO3 := OwI.below hO hb2; have hx3 := (hb2.block Bx (Array.getElem?_eq_some_iff.1 hx).1).trans hx; obtain ⟨y0, y1, _, _⟩ := two_cells hx3; have d3 := hT3.b0.cell)
      have hr3 := (Recs.take1 encRe_len (hl.below hT3.below) (Nat.le_of_lt hxn)).more hT3.below.size
      have hd : 1 ≤ 3 - 1 - 1 := by omega
      gi_region_with_o ((first | refine ⟨trivial, ?_⟩ | skip); gi_at_call 24; refine (CallsIn.inRound l' (callsIn_wide.2 (CloneRe_any _ _ _ _ (l.take x.1.1) _ hr3.drew (by omega)))).mono ?_; rintro e w4 ⟨A1, c1, rfl, ho4, hb4⟩; have hT4 := hT3.drew.below_ hb4; have hO4 := OwI.below (OwI.drew hO3) hb4; have hx4 := (hb4.block Bx (Array.getElem?_eq_some_iff.1 hx3).1).trans hx3; obtain ⟨v0, v1, _, _⟩ := two_cells hx4; have e1 := hT4.b1.cell; have f1 := hT4.b1.frozen; have e2 := hT4.b2.cell; have f2 := hT4.b2.frozen; have e4 := hT4.b4.cell; have f4 := hT4.b4.frozen)
      all_goals
        gi_wp2
        have hT5 := ((hT4.set_s (.int .i64 x.1.2.1)).set_r (.slice A1 x.1.1 c1)).set_k (.bool true)
        have hO5 := ((Ow.set hO4 (p := ⟨w.heap.size + 1, 0, none⟩) (fun g hg e => by have := (Ow.row hO4 g hg).1; simp at e; omega) (.int .i64 x.1.2.1)).set (p := ⟨w.heap.size + 1 + 1, 0, none⟩) (fun g hg e => by have := (Ow.row hO4 g hg).1; simp at e; omega) (.slice A1 x.1.1 c1)).set (p := ⟨w.heap.size + 1 + 1 + 1 + 1, 0, none⟩) (fun g hg e => by have := (Ow.row hO4 g hg).1; simp at e; omega) (.bool true)
        have hR4 : Ow w4 (w.heap.size + 10) 26 2 A1 x.1.1 c1 ((l.take x.1.1).flatMap encRe) := Ow.rebase ho4.2 hT3.size
        have hR5 := ((Ow.set hR4 (p := ⟨w.heap.size + 1, 0, none⟩) (fun g hg e => by have := (Ow.row hR4 g hg).1; simp at e; omega) (.int .i64 x.1.2.1)).set (p := ⟨w.heap.size + 1 + 1, 0, none⟩) (fun g hg e => by have := (Ow.row hR4 g hg).1; simp at e; omega) (.slice A1 x.1.1 c1)).set (p := ⟨w.heap.size + 1 + 1 + 1 + 1, 0, none⟩) (fun g hg e => by have := (Ow.row hR4 g hg).1; simp at e; omega) (.bool true)
        exact ⟨((((keepsFrom_below hb2).trans (keepsFrom_drew w2)).trans (keepsFrom_below hb4)).trans ((KeepsOthers.setCell _ _ _).from _)).trans (((KeepsOthers.setCell _ _ _).from _).trans ((KeepsOthers.setCell _ _ _).from _)), rfl, pre, x, rfl, hall, HP.out, A', c', A1, c1, hT5, hO5, ho4.1, hR5⟩
    · rw [hp] at hcall
      have HP := Lib.hid hp
      clear hp
      gi_wp2_with (first
        | ((first | refine ⟨trivial, ?_⟩ | skip); gi_at_call 33; refine (CallsIn.inRound l' (callsIn_wide.2 hcall)).mono ?_; rintro e w2 ⟨rfl, hb2⟩; have hT3 := hT2.below_ hb2; have hO3 := OwI.below hO hb2; have hx3 := (hb2.block Bx (Array.getElem?_eq_some_iff.1 hx).1).trans hx; obtain ⟨y0, y1, _, _⟩ := two_cells hx3; have d3 := hT3.b3.cell)
        | (gi_at_builtin; refine wpListIn_appI _ rfl (.tmp 33) (.tmp 36) rfl (w.heap.size + 10) _ _ _ _ rfl (hO3.alloc _) _ _ _ _ [x.1.2.1] rfl (Ints.at1_ _ _ _ _ (by first | omega | (simp; done) | (simp; omega))) (by omega) (by have := hT3.size; simp; omega) ?_; intro A3 c3 w3 ho3 hg3 hr3; have hT4 := (hT3.alloc _).kept hg3 (fun q hq => (Ow.row hO3 q hq).1); have d4 := hT4.b3.cell; have d5 := hT4.b3.frozen))
      have hT5 := hT4.set_o (.slice A3 (pre.length + 1) c3)
      have hO5 : OwI (w3.setCell ⟨w.heap.size + 1 + 1 + 1, 0, none⟩ (.slice A3 (pre.length + 1) c3)) (w.heap.size + 10) 3 A3 (pre.length + 1) c3 (pre.map (fun x => x.1.2.1) ++ [x.1.2.1]) := Ow.set ho3 (fun g hg e => by have := (Ow.row ho3 g hg).1; simp at e; omega) _
      have hB5 : Below w.heap.size W (w3.setCell ⟨w.heap.size + 1 + 1 + 1, 0, none⟩ (.slice A3 (pre.length + 1) c3)) := ((((hb2.mono hT2.below.size).alloc hT3.below.size _).grown hg3 (by have := hT3.below.size; simp; omega) (fun g hg => by have := (Ow.row hO3 g hg).1; omega)).setCell (p := ⟨w.heap.size + 1 + 1 + 1, 0, none⟩) (by simp; omega) _)
      refine ⟨(((keepsFrom_below hb2).trans ((KeepsOthers.alloc _ _).from _)).trans ((KeepsOthers.of_grownBy hg3 (Ow.row_cells (OwI.alloc hO3 _))).from _)).trans ((KeepsOthers.setCell _ _ _).from _), hT2.kp hT5 hB5, ⟨A3, c3, by simpa using hT5, by simpa using hO5⟩, fun y hy => ?_⟩
      rcases List.mem_append.1 hy with h | h
      · exact hall y h
      · simp at h
        rw [h]
        exact HP.out
  case done =>
    rintro D ys W hD hcm ⟨⟨A', c', hT2, hO⟩, hall⟩ hK
    have e1 := hT2.b1.cell
    have f1 := hT2.b1.frozen
    have e2 := hT2.b2.cell
    have f2 := hT2.b2.frozen
    have e3 := hT2.b3.cell
    have f3 := hT2.b3.frozen
    have e4 := hT2.b4.cell
    have f4 := hT2.b4.frozen
    have hsz := hT2.size
    go_wp2
    go_region
    go_wp2
    have hT5 := ((((hT2.set_s (.int .i64 (-1))).set_r (.slice none 0 0)).set_o (.slice A' ys.length c')).set_k (.bool false)).drew
    have hK5 := (((((KeepsOthers.setCell W ⟨w.heap.size + 1, 0, none⟩ (.int .i64 (-1))).trans (KeepsOthers.setCell _ ⟨w.heap.size + 1 + 1, 0, none⟩ (.slice none 0 0))).trans (KeepsOthers.setCell _ ⟨w.heap.size + 1 + 1 + 1, 0, none⟩ (.slice A' ys.length c'))).trans (KeepsOthers.setCell _ ⟨w.heap.size + 1 + 1 + 1 + 1, 0, none⟩ (.bool false))).trans (KeepsOthers.drew _)).same D _ hK rfl
    have hO5 := (((Ow.set hO (p := ⟨w.heap.size + 1, 0, none⟩) (fun g hg e => by have := (Ow.row hO g hg).1; simp at e; omega) (.int .i64 (-1))).set (p := ⟨w.heap.size + 1 + 1, 0, none⟩) (fun g hg e => by have := (Ow.row hO g hg).1; simp at e; omega) (.slice none 0 0)).set (p := ⟨w.heap.size + 1 + 1 + 1, 0, none⟩) (fun g hg e => by have := (Ow.row hO g hg).1; simp at e; omega) (.slice A' ys.length c')).set (p := ⟨w.heap.size + 1 + 1 + 1 + 1, 0, none⟩) (fun g hg e => by have := (Ow.row hO g hg).1; simp at e; omega) (.bool false)
    have hT6 := hT5.kept (grownBy_putObj' _ D (.deferred none)) (fun q e => by cases e; rw [hz] at hD; exact hD)
    have hO6 := Ow.from_ (Ow.drew hO5) (grownBy_putObj' _ D (.deferred none)) (fun r e => by cases e; exact ⟨_, hK5, rfl⟩)
    rw [Exit.noGoto_ret]
    refine ⟨by simp, .inl ⟨_, _, rfl, run_takeDeferred hK5, ?_⟩⟩
    have hj : topJ l dead long now = 0 := topJ_of (Nat.zero_le _) (came_all hcm.1 hcm.2 hall) (.inl rfl)
    have ho := came_out hcm.1 hcm.2
    rw [ho] at hO6
    have hlen : ys.length = n := by have := hcm.1; rw [HL.out] at this; omega
    refine ⟨.tuple #[.int .i64 (-1), .slice none 0 0, .slice A' ys.length c', .bool false], ?_, none, 0, A', c', by rw [hj, hlen]; rfl, by rw [hj]; exact OwR.nil_ _ _ _ _, by rw [hj, ← hlen]; exact Ow.rebase hO6 (by omega), hT6.below⟩
    simp [results, Try.results11, go_sem, hT6.b1.cell, hT6.b2.cell, hT6.b3.cell, hT6.b4.cell]
  case stop =>
    rintro D cc pre W hD ⟨m, hm, hcm⟩ ⟨rfl, ini, last, rfl, hall, hgood, A', c', A1, c1, hT2, hO, hR⟩ hK
    have e1 := hT2.b1.cell
    have f1 := hT2.b1.frozen
    have e2 := hT2.b2.cell
    have f2 := hT2.b2.frozen
    have e3 := hT2.b3.cell
    have f3 := hT2.b3.frozen
    have e4 := hT2.b4.cell
    have f4 := hT2.b4.frozen
    have hsz := hT2.size
    refine wpIn_exit ?_
    go_wp2
    go_region
    go_wp2
    have hT5 := ((((hT2.set_s (.int .i64 last.1.2.1)).set_r (.slice A1 last.1.1 c1)).set_o (.slice A' ini.length c')).set_k (.bool true)).drew
    have hK5 := (((((KeepsOthers.setCell W ⟨w.heap.size + 1, 0, none⟩ (.int .i64 last.1.2.1)).trans (KeepsOthers.setCell _ ⟨w.heap.size + 1 + 1, 0, none⟩ (.slice A1 last.1.1 c1))).trans (KeepsOthers.setCell _ ⟨w.heap.size + 1 + 1 + 1, 0, none⟩ (.slice A' ini.length c'))).trans (KeepsOthers.setCell _ ⟨w.heap.size + 1 + 1 + 1 + 1, 0, none⟩ (.bool true))).trans (KeepsOthers.drew _)).same D _ hK rfl
    have hO5 := (((Ow.set hO (p := ⟨w.heap.size + 1, 0, none⟩) (fun g hg e => by have := (Ow.row hO g hg).1; simp at e; omega) (.int .i64 last.1.2.1)).set (p := ⟨w.heap.size + 1 + 1, 0, none⟩) (fun g hg e => by have := (Ow.row hO g hg).1; simp at e; omega) (.slice A1 last.1.1 c1)).set (p := ⟨w.heap.size + 1 + 1 + 1, 0, none⟩) (fun g hg e => by have := (Ow.row hO g hg).1; simp at e; omega) (.slice A' ini.length c')).set (p := ⟨w.heap.size + 1 + 1 + 1 + 1, 0, none⟩) (fun g hg e => by have := (Ow.row hO g hg).1; simp at e; omega) (.bool true)
    have hR5 := (((Ow.set hR.2 (p := ⟨w.heap.size + 1, 0, none⟩) (fun g hg e => by have := (Ow.row hR.2 g hg).1; simp at e; omega) (.int .i64 last.1.2.1)).set (p := ⟨w.heap.size + 1 + 1, 0, none⟩) (fun g hg e => by have := (Ow.row hR.2 g hg).1; simp at e; omega) (.slice A1 last.1.1 c1)).set (p := ⟨w.heap.size + 1 + 1 + 1, 0, none⟩) (fun g hg e => by have := (Ow.row hR.2 g hg).1; simp at e; omega) (.slice A' ini.length c')).set (p := ⟨w.heap.size + 1 + 1 + 1 + 1, 0, none⟩) (fun g hg e => by have := (Ow.row hR.2 g hg).1; simp at e; omega) (.bool true)
    have hT6 := hT5.kept (grownBy_putObj' _ D (.deferred none)) (fun q e => by cases e; rw [hz] at hD; exact hD)
    have hO6 := Ow.from_ (Ow.drew hO5) (grownBy_putObj' _ D (.deferred none)) (fun r e => by cases e; exact ⟨_, hK5, rfl⟩)
    have hR6 := Ow.from_ (Ow.drew hR5) (grownBy_putObj' _ D (.deferred none)) (fun r e => by cases e; exact ⟨_, hK5, rfl⟩)
    rw [Exit.noGoto_ret]
    refine ⟨by simp, .inl ⟨_, _, rfl, run_takeDeferred hK5, ?_⟩⟩
    have hc2 : ∀ j x, ini[j]? = some x → x.1.1 + j + 1 = l.length := fun j x hx => hcm.2 j x (by rw [List.getElem?_append_left (List.getElem?_eq_some_iff.1 hx).1]; exact hx)
    have hlast := hcm.2 ini.length last (by simp)
    have hlen : ini.length + (last.1.1 + 1) = l.length := by omega
    have hj : topJ l dead long now = last.1.1 + 1 := topJ_of (by omega) (came_all hlen hc2 hall) (.inr ⟨last.1.2, last.2, hgood⟩)
    have ho := came_out hlen hc2
    rw [ho] at hO6
    have hlen2 : ini.length = n - (last.1.1 + 1) := by have := HL.out; omega
    have hsock : topS l (last.1.1 + 1) = last.1.2.1 := by unfold topS; rw [if_pos (Nat.succ_pos _), Nat.add_sub_cancel, List.getD_eq_getElem?_getD, last.2]; rfl
    refine ⟨.tuple #[.int .i64 last.1.2.1, .slice A1 last.1.1 c1, .slice A' ini.length c', .bool true], ?_, A1, c1, A', c', by rw [hj, hlen2, hsock, Nat.add_sub_cancel, decide_eq_true (Nat.succ_pos _)], by rw [hj, Nat.add_sub_cancel]; exact ⟨hR.1, Ow.rebase hR6 (by omega)⟩, by rw [hj, ← hlen2]; exact Ow.rebase hO6 (by omega), hT6.below⟩
    simp [results, Try.results11, go_sem, hT6.b1.cell, hT6.b2.cell, hT6.b3.cell, hT6.b4.cell]
end Go.Proofs.Ytfjhommmplencaa
