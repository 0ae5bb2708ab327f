/-
  The walk of the statement ScarSwaps. Conditions: none.
-/
import Derived.Test.YtgpijomnnnjgkaaScarWakes
import Derived.Test.YtgpijomnnnjgkaaScarRef5
import Derived.Test.YtgpijomnnnjgkaaOpenSc
import Derived.BigQuiet
import Derived.StillTailTactics
namespace Go.Proofs.Ytgpijomnnnjgkaa
open Go.RowKit Go.Shelf

theorem Ads.new2 (w : World) (g : Nat) (hg : g = w.heap.size) (x y : Ad) (e : TypeId) : Ads (w.alloc (.cells #[.int .i8 x.1, .int .u16 x.2.1, .int .u16 x.2.2.1, .int .u16 x.2.2.2.1, .int .u16 x.2.2.2.2.1, .int .u16 x.2.2.2.2.2.1, .int .u16 x.2.2.2.2.2.2.1, .int .u16 x.2.2.2.2.2.2.2.1, .int .u16 x.2.2.2.2.2.2.2.2.1, .int .i64 x.2.2.2.2.2.2.2.2.2, .int .i8 y.1, .int .u16 y.2.1, .int .u16 y.2.2.1, .int .u16 y.2.2.2.1, .int .u16 y.2.2.2.2.1, .int .u16 y.2.2.2.2.2.1, .int .u16 y.2.2.2.2.2.2.1, .int .u16 y.2.2.2.2.2.2.2.1, .int .u16 y.2.2.2.2.2.2.2.2.1, .int .i64 y.2.2.2.2.2.2.2.2.2] e)) (g + 1) (some ⟨g, 0, none⟩) 2 [x, y] := Recs.new_at encAd_len w g hg [x, y] 2 rfl _ rfl e
theorem step_buildAd2 {ops : Array Oper} {o : Oper} {a : Act} {w : World} {K : Act → World → Prop} {Q : Exit → Act → World → Prop} {E : Prop} (hw : Region.wanted o (yielded ops a.tmps) = true) (t t2 : Operand)
    (ho : o.op = .buildSlice 22 2 #[(0, t), (1, t2)]) (x y : Ad) (hx : a.eval t = .agg #[.int .i8 x.1, .int .u16 x.2.1, .int .u16 x.2.2.1, .int .u16 x.2.2.2.1, .int .u16 x.2.2.2.2.1, .int .u16 x.2.2.2.2.2.1, .int .u16 x.2.2.2.2.2.2.1, .int .u16 x.2.2.2.2.2.2.2.1, .int .u16 x.2.2.2.2.2.2.2.2.1, .int .i64 x.2.2.2.2.2.2.2.2.2]) (hy : a.eval t2 = .agg #[.int .i8 y.1, .int .u16 y.2.1, .int .u16 y.2.2.1, .int .u16 y.2.2.2.1, .int .u16 y.2.2.2.2.1, .int .u16 y.2.2.2.2.2.1, .int .u16 y.2.2.2.2.2.2.1, .int .u16 y.2.2.2.2.2.2.2.1, .int .u16 y.2.2.2.2.2.2.2.2.1, .int .i64 y.2.2.2.2.2.2.2.2.2])
    (h : ∀ A w', Ads w' w'.heap.size A 2 [x, y] → Below w.heap.size w w' → K (a.put o.dst (.slice A 2 2)) w') :
    if Region.wanted o (yielded ops a.tmps) = true then Oper.wp Try.prog o a w K Q else E := by
  rw [if_pos hw]
  have h2 := h (some ⟨w.heap.size, 0, none⟩) (w.alloc (.cells #[.int .i8 x.1, .int .u16 x.2.1, .int .u16 x.2.2.1, .int .u16 x.2.2.2.1, .int .u16 x.2.2.2.2.1, .int .u16 x.2.2.2.2.2.1, .int .u16 x.2.2.2.2.2.2.1, .int .u16 x.2.2.2.2.2.2.2.1, .int .u16 x.2.2.2.2.2.2.2.2.1, .int .i64 x.2.2.2.2.2.2.2.2.2, .int .i8 y.1, .int .u16 y.2.1, .int .u16 y.2.2.1, .int .u16 y.2.2.2.1, .int .u16 y.2.2.2.2.1, .int .u16 y.2.2.2.2.2.1, .int .u16 y.2.2.2.2.2.2.1, .int .u16 y.2.2.2.2.2.2.2.1, .int .u16 y.2.2.2.2.2.2.2.2.1, .int .i64 y.2.2.2.2.2.2.2.2.2] 31)) (by simpa using Ads.new2 w _ rfl x y 31) (Below.new_ w _)
  unfold Oper.wp execOp
  simp only [ho, resolve, List.map_toArray, List.map_cons, List.map_nil, hx, hy]
  go_simp
  exact h2
theorem rSame12_sameS (A1 A2 : Option Addr) (n c1 c2 B1 B2 : Nat) (a : List Sc) (w : World) (ha : Scs w B1 A1 n a) (hb : Scs w B2 A2 n a) (hn : n ≤ 1000) :
    Calls Try.prog 17 #[.slice A1 n c1, .slice A2 n c2] w fun e w' => e = .returned (.bool true) ∧ Below w.heap.size w w' :=
  (rSame12_any A1 A2 n n c1 c2 B1 B2 a a w ha hb (by omega) (by omega)).mono fun e w' ⟨h1, h2⟩ => ⟨by rw [h1]; simp, h2⟩
theorem SameSc_same (A1 A2 : Option Addr) (n c1 c2 : Nat) (a : List Sc) (w : World) (ha : Scs w w.heap.size A1 n a) (hb : Scs w w.heap.size A2 n a) (hn : n ≤ 1000) :
    Calls Try.prog 22 #[.slice A1 n c1, .slice A2 n c2] w fun e w' => e = .returned (.bool true) ∧ Below w.heap.size w w' :=
  (SameSc_any A1 A2 n n c1 c2 a a w ha hb hn hn).mono fun e w' ⟨h1, h2⟩ => ⟨by rw [h1]; simp, h2⟩
theorem Heal_at (A : Option Addr) (n c : Nat) (l : List Sc) (As : Option Addr) (ns cs : Nat) (ls : List Ad) (w : World) (hl : Scs w w.heap.size A n l) (hn : n ≤ 1000) (hs : Ads w w.heap.size As ns ls) (hns : ns ≤ 1000) (R : List Sc) (m : Nat) (hR : healL l ls = R) (hm : R.length = m) :
    Calls Try.prog 13 #[.slice A n c, .slice As ns cs] w fun e w' => ∃ A' c', e = .returned (.slice A' m c') ∧ Scs w' w'.heap.size A' m R ∧ Below w.heap.size w w' := by
  subst hR hm
  exact (Heal_any A n c l As ns cs ls w hl hn hs hns).mono fun e w' ⟨A', c', h1, h2, h3⟩ => ⟨A', c', h1, h2.recs, h3⟩

theorem heal_two (l : List Sc) (a b : Ad) : healL (healL l [a]) [b] = healL l [a, b] := by
  unfold healL
  rw [List.filter_filter]
  refine List.filter_congr fun x _ => ?_
  by_cases h1 : x.1 = a <;> by_cases h2 : x.1 = b <;> simp [healR, h1, h2]
theorem heal_swap (l : List Sc) (a b : Ad) : healL l [b, a] = healL l [a, b] := by
  unfold healL
  refine List.filter_congr fun x _ => ?_
  simp [healR, or_comm]
theorem heal_app (l m : List Sc) (a : List Ad) : healL (l ++ m) a = healL l a ++ healL m a := List.filter_append ..
theorem note_two (l : List Sc) (now : Int) (a b : Ad) (hab : ¬ a = b) (hl : l.length ≤ 30) : noteL l now [a, b] = healL l [a, b] ++ [(a, now), (b, now)] := by
  have h1 : noteAll l now [a, b] = healL (healL l [a] ++ [(a, now)]) [b] ++ [(b, now)] := rfl
  have h2 : healL [((a, now) : Sc)] [b] = [(a, now)] := by simp [healL, healR, hab]
  have h3 := healL_le l [a, b]
  unfold noteL
  rw [h1, heal_app, heal_two, h2]
  unfold lastOnes
  rw [show (healL l [a, b] ++ [(a, now)] ++ [(b, now)]).length - 32 = 0 by simp only [List.length_append, List.length_cons, List.length_nil]; omega]
  simp
theorem heal_idem (l : List Sc) (a : List Ad) : healL (healL l a) a = healL l a := by
  unfold healL
  rw [List.filter_filter]
  refine List.filter_congr fun x _ => ?_
  simp
theorem heal_back (l : List Sc) (now : Int) (a b : Ad) : healL (healL l [a, b] ++ [(a, now), (b, now)]) [b, a] = healL l [a, b] := by
  rw [heal_app, heal_swap _ a b, heal_idem]
  have : healL [((a, now) : Sc), (b, now)] [b, a] = [] := by simp [healL, healR]
  rw [this, List.append_nil]

set_option maxRecDepth 100000 in
set_option maxHeartbeats 8000000 in
theorem ScarSwaps_in (A : Option Addr) (n c : Nat) (l : List Sc) (a b : Ad) (now : Int) (w : World)
    (hl : Scs w w.heap.size A n l) (hn : n ≤ 30) (hab : ¬ a = b) :
    Calls Try.prog 7 #[.slice A n c, .agg #[.int .i8 a.1, .int .u16 a.2.1, .int .u16 a.2.2.1, .int .u16 a.2.2.2.1, .int .u16 a.2.2.2.2.1, .int .u16 a.2.2.2.2.2.1, .int .u16 a.2.2.2.2.2.2.1, .int .u16 a.2.2.2.2.2.2.2.1, .int .u16 a.2.2.2.2.2.2.2.2.1, .int .i64 a.2.2.2.2.2.2.2.2.2], .agg #[.int .i8 b.1, .int .u16 b.2.1, .int .u16 b.2.2.1, .int .u16 b.2.2.2.1, .int .u16 b.2.2.2.2.1, .int .u16 b.2.2.2.2.2.1, .int .u16 b.2.2.2.2.2.2.1, .int .u16 b.2.2.2.2.2.2.2.1, .int .u16 b.2.2.2.2.2.2.2.2.1, .int .i64 b.2.2.2.2.2.2.2.2.2], .int .i64 now] w fun e w' => e = .returned (.bool true) ∧ Below w.heap.size w w' := by
  have d1 : decide ((30 : Int) < (n : Int)) = false := by simp; omega
  have d2 : decide (30 < n) = false := by simp; omega
  have hE := fun wx => eqAd a b wx
  rw [decide_eq_false hab] at hE
  unfold valAd at hE
  obtain ⟨H, hH⟩ : ∃ H, H = healL l [a, b] := ⟨_, rfl⟩
  have hHn : H.length ≤ 30 := by rw [hH]; exact Nat.le_trans (healL_le _ _) (by rw [hl.1]; exact hn)
  obtain ⟨h, hh⟩ : ∃ h, H.length = h := ⟨_, rfl⟩
  obtain ⟨q, hq⟩ : ∃ q, q = h + 2 := ⟨_, rfl⟩
  rw [hh] at hHn
  have hq2 : 2 ≤ q := by omega
  have hq3 : q ≤ 32 := by omega
  have hX := note_two l now a b hab (by rw [hl.1]; exact hn)
  have hY := note_two l now b a (fun e => hab e.symm) (by rw [hl.1]; exact hn)
  rw [heal_swap] at hY
  have hZ := heal_back l now a b
  have hT := heal_two l a b
  rw [← hH] at hX hY hZ hT
  obtain ⟨X, hXe⟩ : ∃ X, X = H ++ [(a, now), (b, now)] := ⟨_, rfl⟩
  obtain ⟨Y, hYe⟩ : ∃ Y, Y = H ++ [(b, now), (a, now)] := ⟨_, rfl⟩
  rw [← hXe] at hX hZ
  rw [← hYe] at hY
  have hXl : X.length = q := by rw [hXe, List.length_append, hh, hq]; rfl
  have hYl : Y.length = q := by rw [hYe, List.length_append, hh, hq]; rfl
  have x1 : X[q - 1]? = some (b, now) := by rw [hXe, List.getElem?_append_right (by omega), hh, show q - 1 - h = 1 by omega]; rfl
  have x2 : X[q - 2]? = some (a, now) := by rw [hXe, List.getElem?_append_right (by omega), hh, show q - 2 - h = 0 by omega]; rfl
  have y1 : Y[q - 1]? = some (a, now) := by rw [hYe, List.getElem?_append_right (by omega), hh, show q - 1 - h = 1 by omega]; rfl
  have y2 : Y[q - 2]? = some (b, now) := by rw [hYe, List.getElem?_append_right (by omega), hh, show q - 2 - h = 0 by omega]; rfl
  have x3 : X.take (q - 2) = H := by rw [hXe, show q - 2 = H.length by omega]; exact List.take_left
  have y3 : Y.take (q - 2) = H := by rw [hYe, show q - 2 = H.length by omega]; exact List.take_left
  have hHl : H.length = q - 2 := by omega
  have HX := Lib.hid hX
  have HY := Lib.hid hY
  have HZ := Lib.hid hZ
  have HT := Lib.hid hT
  have HH := Lib.hid hH.symm
  have HXL := Lib.hid hXl
  have HYL := Lib.hid hYl
  have HHL := Lib.hid hHl
  have X1 := Lib.hid x1
  have X2 := Lib.hid x2
  have Y1 := Lib.hid y1
  have Y2 := Lib.hid y2
  have X3 := Lib.hid x3
  have Y3 := Lib.hid y3
  have HHA := Lib.hid (Nat.le_trans (healL_le l [a]) (by rw [hl.1]; exact hn))
  clear hX hY hZ hT hH hXl hYl hHl x1 x2 y1 y2 x3 y3 hXe hYe hh hq hHn
  have F := And.intro (And.intro ((Below.heap_alloc (w.alloc (.cells #[.int .i8 a.1, .int .u16 a.2.1, .int .u16 a.2.2.1, .int .u16 a.2.2.2.1, .int .u16 a.2.2.2.2.1, .int .u16 a.2.2.2.2.2.1, .int .u16 a.2.2.2.2.2.2.1, .int .u16 a.2.2.2.2.2.2.2.1, .int .u16 a.2.2.2.2.2.2.2.2.1, .int .i64 a.2.2.2.2.2.2.2.2.2] 31)) (.cells #[.int .i8 b.1, .int .u16 b.2.1, .int .u16 b.2.2.1, .int .u16 b.2.2.2.1, .int .u16 b.2.2.2.2.1, .int .u16 b.2.2.2.2.2.1, .int .u16 b.2.2.2.2.2.2.1, .int .u16 b.2.2.2.2.2.2.2.1, .int .u16 b.2.2.2.2.2.2.2.2.1, .int .i64 b.2.2.2.2.2.2.2.2.2] 31) w.heap.size (by simp)).trans (heap_alloc_new w (.cells #[.int .i8 a.1, .int .u16 a.2.1, .int .u16 a.2.2.1, .int .u16 a.2.2.2.1, .int .u16 a.2.2.2.2.1, .int .u16 a.2.2.2.2.2.1, .int .u16 a.2.2.2.2.2.2.1, .int .u16 a.2.2.2.2.2.2.2.1, .int .u16 a.2.2.2.2.2.2.2.2.1, .int .i64 a.2.2.2.2.2.2.2.2.2] 31))) (show ((w.alloc (.cells #[.int .i8 a.1, .int .u16 a.2.1, .int .u16 a.2.2.1, .int .u16 a.2.2.2.1, .int .u16 a.2.2.2.2.1, .int .u16 a.2.2.2.2.2.1, .int .u16 a.2.2.2.2.2.2.1, .int .u16 a.2.2.2.2.2.2.2.1, .int .u16 a.2.2.2.2.2.2.2.2.1, .int .i64 a.2.2.2.2.2.2.2.2.2] 31)).alloc (.cells #[.int .i8 b.1, .int .u16 b.2.1, .int .u16 b.2.2.1, .int .u16 b.2.2.2.1, .int .u16 b.2.2.2.2.1, .int .u16 b.2.2.2.2.2.1, .int .u16 b.2.2.2.2.2.2.1, .int .u16 b.2.2.2.2.2.2.2.1, .int .u16 b.2.2.2.2.2.2.2.2.1, .int .i64 b.2.2.2.2.2.2.2.2.2] 31)).heap[w.heap.size + 1]? = some (.cells #[.int .i8 b.1, .int .u16 b.2.1, .int .u16 b.2.2.1, .int .u16 b.2.2.2.1, .int .u16 b.2.2.2.2.1, .int .u16 b.2.2.2.2.2.1, .int .u16 b.2.2.2.2.2.2.1, .int .u16 b.2.2.2.2.2.2.2.1, .int .u16 b.2.2.2.2.2.2.2.2.1, .int .i64 b.2.2.2.2.2.2.2.2.2] 31 (0, 0)) by
    have := heap_alloc_new (w.alloc (.cells #[.int .i8 a.1, .int .u16 a.2.1, .int .u16 a.2.2.1, .int .u16 a.2.2.2.1, .int .u16 a.2.2.2.2.1, .int .u16 a.2.2.2.2.2.1, .int .u16 a.2.2.2.2.2.2.1, .int .u16 a.2.2.2.2.2.2.2.1, .int .u16 a.2.2.2.2.2.2.2.2.1, .int .i64 a.2.2.2.2.2.2.2.2.2] 31)) (.cells #[.int .i8 b.1, .int .u16 b.2.1, .int .u16 b.2.2.1, .int .u16 b.2.2.2.1, .int .u16 b.2.2.2.2.1, .int .u16 b.2.2.2.2.2.1, .int .u16 b.2.2.2.2.2.2.1, .int .u16 b.2.2.2.2.2.2.2.1, .int .u16 b.2.2.2.2.2.2.2.2.1, .int .i64 b.2.2.2.2.2.2.2.2.2] 31)
    rw [show (w.alloc (.cells #[.int .i8 a.1, .int .u16 a.2.1, .int .u16 a.2.2.1, .int .u16 a.2.2.2.1, .int .u16 a.2.2.2.2.1, .int .u16 a.2.2.2.2.2.1, .int .u16 a.2.2.2.2.2.2.1, .int .u16 a.2.2.2.2.2.2.2.1, .int .u16 a.2.2.2.2.2.2.2.2.1, .int .i64 a.2.2.2.2.2.2.2.2.2] 31)).heap.size = w.heap.size + 1 by simp] at this
    exact this)) (And.intro (show w.heap.size + 1 < ((w.alloc (.cells #[.int .i8 a.1, .int .u16 a.2.1, .int .u16 a.2.2.1, .int .u16 a.2.2.2.1, .int .u16 a.2.2.2.2.1, .int .u16 a.2.2.2.2.2.1, .int .u16 a.2.2.2.2.2.2.1, .int .u16 a.2.2.2.2.2.2.2.1, .int .u16 a.2.2.2.2.2.2.2.2.1, .int .i64 a.2.2.2.2.2.2.2.2.2] 31)).alloc (.cells #[.int .i8 b.1, .int .u16 b.2.1, .int .u16 b.2.2.1, .int .u16 b.2.2.2.1, .int .u16 b.2.2.2.2.1, .int .u16 b.2.2.2.2.2.1, .int .u16 b.2.2.2.2.2.2.1, .int .u16 b.2.2.2.2.2.2.2.1, .int .u16 b.2.2.2.2.2.2.2.2.1, .int .i64 b.2.2.2.2.2.2.2.2.2] 31)).heap.size by simp) ((Below.new_ w (.cells #[.int .i8 a.1, .int .u16 a.2.1, .int .u16 a.2.2.1, .int .u16 a.2.2.2.1, .int .u16 a.2.2.2.2.1, .int .u16 a.2.2.2.2.2.1, .int .u16 a.2.2.2.2.2.2.1, .int .u16 a.2.2.2.2.2.2.2.1, .int .u16 a.2.2.2.2.2.2.2.2.1, .int .i64 a.2.2.2.2.2.2.2.2.2] 31)).alloc (B := w.heap.size) (by simp) (.cells #[.int .i8 b.1, .int .u16 b.2.1, .int .u16 b.2.2.1, .int .u16 b.2.2.2.1, .int .u16 b.2.2.2.2.1, .int .u16 b.2.2.2.2.2.1, .int .u16 b.2.2.2.2.2.2.1, .int .u16 b.2.2.2.2.2.2.2.1, .int .u16 b.2.2.2.2.2.2.2.2.1, .int .i64 b.2.2.2.2.2.2.2.2.2] 31)))
  replace hl : Scs ((w.alloc (.cells #[.int .i8 a.1, .int .u16 a.2.1, .int .u16 a.2.2.1, .int .u16 a.2.2.2.1, .int .u16 a.2.2.2.2.1, .int .u16 a.2.2.2.2.2.1, .int .u16 a.2.2.2.2.2.2.1, .int .u16 a.2.2.2.2.2.2.2.1, .int .u16 a.2.2.2.2.2.2.2.2.1, .int .i64 a.2.2.2.2.2.2.2.2.2] 31)).alloc (.cells #[.int .i8 b.1, .int .u16 b.2.1, .int .u16 b.2.2.1, .int .u16 b.2.2.2.1, .int .u16 b.2.2.2.2.1, .int .u16 b.2.2.2.2.2.1, .int .u16 b.2.2.2.2.2.2.1, .int .u16 b.2.2.2.2.2.2.2.1, .int .u16 b.2.2.2.2.2.2.2.2.1, .int .i64 b.2.2.2.2.2.2.2.2.2] 31)) ((w.alloc (.cells #[.int .i8 a.1, .int .u16 a.2.1, .int .u16 a.2.2.1, .int .u16 a.2.2.2.1, .int .u16 a.2.2.2.2.1, .int .u16 a.2.2.2.2.2.1, .int .u16 a.2.2.2.2.2.2.1, .int .u16 a.2.2.2.2.2.2.2.1, .int .u16 a.2.2.2.2.2.2.2.2.1, .int .i64 a.2.2.2.2.2.2.2.2.2] 31)).alloc (.cells #[.int .i8 b.1, .int .u16 b.2.1, .int .u16 b.2.2.1, .int .u16 b.2.2.2.1, .int .u16 b.2.2.2.2.1, .int .u16 b.2.2.2.2.2.1, .int .u16 b.2.2.2.2.2.2.1, .int .u16 b.2.2.2.2.2.2.2.1, .int .u16 b.2.2.2.2.2.2.2.2.1, .int .i64 b.2.2.2.2.2.2.2.2.2] 31)).heap.size A n l := ((hl.alloc (Nat.le_refl _) _).alloc (by first | omega | (simp; done) | (simp; omega)) _).more (by first | omega | (simp; done) | (simp; omega))
  go_enter Try.func7, Try.ntmps7
  go_upto_region 1 with fail
  generalize ((w.alloc (.cells #[.int .i8 a.1, .int .u16 a.2.1, .int .u16 a.2.2.1, .int .u16 a.2.2.2.1, .int .u16 a.2.2.2.2.1, .int .u16 a.2.2.2.2.2.1, .int .u16 a.2.2.2.2.2.2.1, .int .u16 a.2.2.2.2.2.2.2.1, .int .u16 a.2.2.2.2.2.2.2.2.1, .int .i64 a.2.2.2.2.2.2.2.2.2] 31)).alloc (.cells #[.int .i8 b.1, .int .u16 b.2.1, .int .u16 b.2.2.1, .int .u16 b.2.2.2.1, .int .u16 b.2.2.2.2.1, .int .u16 b.2.2.2.2.2.1, .int .u16 b.2.2.2.2.2.2.1, .int .u16 b.2.2.2.2.2.2.2.1, .int .u16 b.2.2.2.2.2.2.2.2.1, .int .i64 b.2.2.2.2.2.2.2.2.2] 31)) = W at *
  obtain ⟨⟨hA, hB⟩, lB, hb⟩ := F
  have lA : w.heap.size < W.heap.size := by omega
  obtain ⟨z0, z1, z2, z3, z4, z5, z6, z7, z8, z9⟩ := ad_cells hA
  obtain ⟨y0, y1, y2, y3, y4, y5, y6, y7, y8, y9⟩ := ad_cells hB
  go_wp2_with fail
  clear z0 z1 z2 z3 z4 z5 z6 z7 z8 z9 y0 y1 y2 y3 y4 y5 y6 y7 y8 y9
  go_loopw [9] (fun s9 wr => ∃ i : Nat, i ≤ n ∧ s9 = .int .i64 i ∧ Below W.heap.size W wr) (fun s9 _ => n - (intOf s9).toNat)
  case atStart => exact ⟨0, Nat.zero_le _, rfl, Below.refl _ _⟩
  case round =>
    obtain ⟨i, hi, rfl, hb2⟩ := hrel
    by_cases hgo : i < n
    · go_wp2_with fail
      obtain ⟨wp, rfl⟩ : ∃ wp : World, wp = wr := ⟨_, rfl⟩
      go_loopw [10] (fun s10 w3 => ∃ k : Nat, k ≤ i ∧ s10 = .int .i64 k ∧ Below wp.heap.size wp w3) (fun s10 _ => i - (intOf s10).toNat)
      case atStart => exact ⟨0, Nat.zero_le _, rfl, Below.refl _ _⟩
      case round =>
        obtain ⟨k, hk, rfl, hb3⟩ := hrel
        have hk2 := hb3
        replace hb3 := hb2.trans (hb3.mono hb2.size)
        by_cases hgo2 : k < i
        · obtain ⟨b1, off1, x, rfl, hbb1, hx, hc0, hc1, hc2, hc3, hc4, hc5, hc6, hc7, hc8, hc9, hc10⟩ := Scs.cells (hl.below hb3) hgo
          obtain ⟨b2, off2, y, e2, hbb2, hy, hf0, hf1, hf2, hf3, hf4, hf5, hf6, hf7, hf8, hf9, hf10⟩ := Scs.cells (hl.below hb3) (i := k) (by omega)
          injection e2 with e2
          injection e2 with e2 e3
          subst e2 e3
          have hE2 := fun wx => eqAd y.1 x.1 wx
          unfold valAd at hE2
          by_cases hp : y.1 = x.1
          · rw [decide_eq_true hp] at hE2
            clear hp
            replace hb := hb.trans (hb3.mono hb.size)
            clear hb3 hb2 hk2 hl
            go_upto_region 9 with fail
            go_quiet (fail)
            go_wp2_with fail
            refine (wakes12_any _).mono ?_
            rintro e w4 ⟨rfl, hb4⟩
            replace hb := (below_drewN hb _).trans (hb4.mono hb.size)
            go_wp2_with fail
            go_ret
            exact ⟨rfl, hb⟩
          · rw [decide_eq_false hp] at hE2
            clear hp
            go_upto_region 9 with fail
            go_quiet (fail)
            go_wp2_with fail
            go_roundw
            case rel => exact ⟨k + 1, by omega, by go_num, below_drewN hk2 _⟩
            case measure => simp [intOf]; omega
        · go_wp2_with fail
          go_roundw
          case rel => exact ⟨i + 1, by omega, by go_num, hb3⟩
          case measure => simp [intOf]; omega
    · obtain rfl : i = n := by omega
      replace hl := (hl.below hb2).more hb2.size
      replace hA := (hb2.block _ lA).trans hA
      replace hB := (hb2.block _ lB).trans hB
      replace lA := Nat.lt_of_lt_of_le lA hb2.size
      replace lB := Nat.lt_of_lt_of_le lB hb2.size
      replace hb := hb.trans (hb2.mono hb.size)
      clear hb2
      go_upto_region 11 with fail
      go_cut [11, 12] (fun s11 s12 wx => ∃ A1 c1 A2 c2, s11 = .slice A1 q c1 ∧ s12 = .slice A2 q c2 ∧ Scs wx wx.heap.size A1 q X ∧ Scs wx wx.heap.size A2 q Y ∧ q ≤ c1 ∧ q ≤ c2 ∧ Below wr.heap.size wr wx)
      case first =>
        have hS : Below wr.heap.size wr wr.drew := (Below.refl _ _).drew
        refine wp_region_held_drew (S := (fun wx => Below wr.heap.size wr wx)) (by kernel_rfl) ?_ (fun hHeld => ?_)
        · (try dsimp only); first | done | (exact hS)
        first
          | (refine wpAnyH_take (i := 0) (v := ?_) rfl (by kernel_rfl) (by kernel_rfl) (by kernel_rfl) (fun _ _ _ h => h) (Or.inl ⟨by rfl, ?_⟩) hHeld ?_; rotate_left; (intro wq hSw; (try dsimp only at hSw); go_simp; done))
          | (refine wpAnyH_take (i := 0) (v := ?_) rfl (by kernel_rfl) (by kernel_rfl) (by kernel_rfl) (fun _ _ _ h => h) (Or.inl ⟨by rfl, ?_⟩) hHeld ?_; rotate_left; (intro wq hSw; (try dsimp only at hSw); go_simp; with_reducible rfl))
          | refine wpAnyH_take (i := 0) (v := undef) rfl (by kernel_rfl) (by kernel_rfl) (by kernel_rfl) (fun _ _ _ h => h) (Or.inr ⟨by rfl, rfl⟩) hHeld ?_
        try simp only [Act.put, List.getElem_toArray, List.getElem_cons_succ, List.getElem_cons_zero, List.setIfInBounds_toArray, List.set_cons_zero, List.set_cons_succ]
        first
          | (refine wpAnyH_take (i := 1) (v := ?_) rfl (by kernel_rfl) (by kernel_rfl) (by kernel_rfl) (fun _ _ _ h => h) (Or.inl ⟨by rfl, ?_⟩) hHeld ?_; rotate_left; (intro wq hSw; (try dsimp only at hSw); go_simp; done))
          | (refine wpAnyH_take (i := 1) (v := ?_) rfl (by kernel_rfl) (by kernel_rfl) (by kernel_rfl) (fun _ _ _ h => h) (Or.inl ⟨by rfl, ?_⟩) hHeld ?_; rotate_left; (intro wq hSw; (try dsimp only at hSw); go_simp; with_reducible rfl))
          | refine wpAnyH_take (i := 1) (v := undef) rfl (by kernel_rfl) (by kernel_rfl) (by kernel_rfl) (fun _ _ _ h => h) (Or.inr ⟨by rfl, rfl⟩) hHeld ?_
        try simp only [Act.put, List.getElem_toArray, List.getElem_cons_succ, List.getElem_cons_zero, List.setIfInBounds_toArray, List.set_cons_zero, List.set_cons_succ]
        first
          | (refine wpAnyH_take (i := 2) (v := ?_) rfl (by kernel_rfl) (by kernel_rfl) (by kernel_rfl) (fun _ _ _ h => h) (Or.inl ⟨by rfl, ?_⟩) hHeld ?_; rotate_left; (intro wq hSw; (try dsimp only at hSw); obtain ⟨z0, z1, z2, z3, z4, z5, z6, z7, z8, z9⟩ := ad_cells ((hSw.block _ lA).trans hA); go_simp; done))
          | (refine wpAnyH_take (i := 2) (v := ?_) rfl (by kernel_rfl) (by kernel_rfl) (by kernel_rfl) (fun _ _ _ h => h) (Or.inl ⟨by rfl, ?_⟩) hHeld ?_; rotate_left; (intro wq hSw; (try dsimp only at hSw); obtain ⟨z0, z1, z2, z3, z4, z5, z6, z7, z8, z9⟩ := ad_cells ((hSw.block _ lA).trans hA); go_simp; with_reducible rfl))
          | refine wpAnyH_take (i := 2) (v := undef) rfl (by kernel_rfl) (by kernel_rfl) (by kernel_rfl) (fun _ _ _ h => h) (Or.inr ⟨by rfl, rfl⟩) hHeld ?_
        try simp only [Act.put, List.getElem_toArray, List.getElem_cons_succ, List.getElem_cons_zero, List.setIfInBounds_toArray, List.set_cons_zero, List.set_cons_succ]
        first
          | (refine wpAnyH_take (i := 3) (v := ?_) rfl (by kernel_rfl) (by kernel_rfl) (by kernel_rfl) (fun _ _ _ h => h) (Or.inl ⟨by rfl, ?_⟩) hHeld ?_; rotate_left; (intro wq hSw; (try dsimp only at hSw); obtain ⟨z0, z1, z2, z3, z4, z5, z6, z7, z8, z9⟩ := ad_cells ((hSw.block _ lB).trans hB); go_simp; done))
          | (refine wpAnyH_take (i := 3) (v := ?_) rfl (by kernel_rfl) (by kernel_rfl) (by kernel_rfl) (fun _ _ _ h => h) (Or.inl ⟨by rfl, ?_⟩) hHeld ?_; rotate_left; (intro wq hSw; (try dsimp only at hSw); obtain ⟨z0, z1, z2, z3, z4, z5, z6, z7, z8, z9⟩ := ad_cells ((hSw.block _ lB).trans hB); go_simp; with_reducible rfl))
          | refine wpAnyH_take (i := 3) (v := undef) rfl (by kernel_rfl) (by kernel_rfl) (by kernel_rfl) (fun _ _ _ h => h) (Or.inr ⟨by rfl, rfl⟩) hHeld ?_
        try simp only [Act.put, List.getElem_toArray, List.getElem_cons_succ, List.getElem_cons_zero, List.setIfInBounds_toArray, List.set_cons_zero, List.set_cons_succ]
        first
          | (refine wpAnyH_take (i := 6) (v := ?_) rfl (by kernel_rfl) (by kernel_rfl) (by kernel_rfl) (fun _ _ _ h => h) (Or.inl ⟨by rfl, ?_⟩) hHeld ?_; rotate_left; (intro wq hSw; (try dsimp only at hSw); go_simp; done))
          | (refine wpAnyH_take (i := 6) (v := ?_) rfl (by kernel_rfl) (by kernel_rfl) (by kernel_rfl) (fun _ _ _ h => h) (Or.inl ⟨by rfl, ?_⟩) hHeld ?_; rotate_left; (intro wq hSw; (try dsimp only at hSw); go_simp; with_reducible rfl))
          | refine wpAnyH_take (i := 6) (v := undef) rfl (by kernel_rfl) (by kernel_rfl) (by kernel_rfl) (fun _ _ _ h => h) (Or.inr ⟨by rfl, rfl⟩) hHeld ?_
        try simp only [Act.put, List.getElem_toArray, List.getElem_cons_succ, List.getElem_cons_zero, List.setIfInBounds_toArray, List.set_cons_zero, List.set_cons_succ]
        first
          | (refine wpAnyH_take (i := 7) (v := ?_) rfl (by kernel_rfl) (by kernel_rfl) (by kernel_rfl) (fun _ _ _ h => h) (Or.inl ⟨by rfl, ?_⟩) hHeld ?_; rotate_left; (intro wq hSw; (try dsimp only at hSw); go_simp; done))
          | (refine wpAnyH_take (i := 7) (v := ?_) rfl (by kernel_rfl) (by kernel_rfl) (by kernel_rfl) (fun _ _ _ h => h) (Or.inl ⟨by rfl, ?_⟩) hHeld ?_; rotate_left; (intro wq hSw; (try dsimp only at hSw); go_simp; with_reducible rfl))
          | refine wpAnyH_take (i := 7) (v := undef) rfl (by kernel_rfl) (by kernel_rfl) (by kernel_rfl) (fun _ _ _ h => h) (Or.inr ⟨by rfl, rfl⟩) hHeld ?_
        try simp only [Act.put, List.getElem_toArray, List.getElem_cons_succ, List.getElem_cons_zero, List.setIfInBounds_toArray, List.set_cons_zero, List.set_cons_succ]
        first
          | (refine wpAnyH_take (i := 8) (v := ?_) rfl (by kernel_rfl) (by kernel_rfl) (by kernel_rfl) (fun _ _ _ h => h) (Or.inl ⟨by rfl, ?_⟩) hHeld ?_; rotate_left; (intro wq hSw; (try dsimp only at hSw); obtain ⟨z0, z1, z2, z3, z4, z5, z6, z7, z8, z9⟩ := ad_cells ((hSw.block _ lB).trans hB); go_simp; done))
          | (refine wpAnyH_take (i := 8) (v := ?_) rfl (by kernel_rfl) (by kernel_rfl) (by kernel_rfl) (fun _ _ _ h => h) (Or.inl ⟨by rfl, ?_⟩) hHeld ?_; rotate_left; (intro wq hSw; (try dsimp only at hSw); obtain ⟨z0, z1, z2, z3, z4, z5, z6, z7, z8, z9⟩ := ad_cells ((hSw.block _ lB).trans hB); go_simp; with_reducible rfl))
          | refine wpAnyH_take (i := 8) (v := undef) rfl (by kernel_rfl) (by kernel_rfl) (by kernel_rfl) (fun _ _ _ h => h) (Or.inr ⟨by rfl, rfl⟩) hHeld ?_
        try simp only [Act.put, List.getElem_toArray, List.getElem_cons_succ, List.getElem_cons_zero, List.setIfInBounds_toArray, List.set_cons_zero, List.set_cons_succ]
        first
          | (refine wpAnyH_take (i := 9) (v := ?_) rfl (by kernel_rfl) (by kernel_rfl) (by kernel_rfl) (fun _ _ _ h => h) (Or.inl ⟨by rfl, ?_⟩) hHeld ?_; rotate_left; (intro wq hSw; (try dsimp only at hSw); obtain ⟨z0, z1, z2, z3, z4, z5, z6, z7, z8, z9⟩ := ad_cells ((hSw.block _ lA).trans hA); go_simp; done))
          | (refine wpAnyH_take (i := 9) (v := ?_) rfl (by kernel_rfl) (by kernel_rfl) (by kernel_rfl) (fun _ _ _ h => h) (Or.inl ⟨by rfl, ?_⟩) hHeld ?_; rotate_left; (intro wq hSw; (try dsimp only at hSw); obtain ⟨z0, z1, z2, z3, z4, z5, z6, z7, z8, z9⟩ := ad_cells ((hSw.block _ lA).trans hA); go_simp; with_reducible rfl))
          | refine wpAnyH_take (i := 9) (v := undef) rfl (by kernel_rfl) (by kernel_rfl) (by kernel_rfl) (fun _ _ _ h => h) (Or.inr ⟨by rfl, rfl⟩) hHeld ?_
        try simp only [Act.put, List.getElem_toArray, List.getElem_cons_succ, List.getElem_cons_zero, List.setIfInBounds_toArray, List.set_cons_zero, List.set_cons_succ]
        refine wpAnyH_ready (rs := [4, 10]) (by kernel_rfl) (by simp) ?_
        refine AllReadyH.cons rfl (fun K hK => ?_) ?_
        ·
          refine step_buildAd2 (by rfl) (.tmp 49) (.tmp 50) (by rfl) a b (by rfl) (by rfl) ?_; intro B51 wx h51 hbx; replace hS := hS.trans (hbx.mono hS.size); (try replace h57 := (h57.below hbx).more hbx.size); (try replace n52 := (n52.below hbx).more hbx.size); (try replace n58 := (n58.below hbx).more hbx.size); clear hbx
          refine hK.out _ _ ?_ (fun hHeld => ?_)
          · (try dsimp only); first | done | (exact hS)
          clear hK K
          try simp only [Act.put, List.getElem_toArray, List.getElem_cons_succ, List.getElem_cons_zero, List.setIfInBounds_toArray, List.set_cons_zero, List.set_cons_succ]
          refine wpAnyH_ready (rs := [5, 10]) (by kernel_rfl) (by simp) ?_
          refine AllReadyH.cons rfl (fun K hK => ?_) ?_
          ·
            go_simp; go_at_call 10; refine (Note_at _ _ _ l now _ 2 2 [a, b] _ ((hl.below hS).more hS.size) h51 X q HX.out HXL.out (by omega)).mono ?_; rintro e wx ⟨A52, c52, rfl, n52, m52, hbx⟩; replace hS := hS.trans (hbx.mono hS.size); (try replace h51 := (h51.below hbx).more hbx.size); (try replace h57 := (h57.below hbx).more hbx.size); (try replace n58 := (n58.below hbx).more hbx.size); clear hbx; try go_wp2_with fail
            refine hK.out _ _ ?_ (fun hHeld => ?_)
            · (try dsimp only); first | done | (exact hS)
            clear hK K
            try simp only [Act.put, List.getElem_toArray, List.getElem_cons_succ, List.getElem_cons_zero, List.setIfInBounds_toArray, List.set_cons_zero, List.set_cons_succ]
            refine wpAnyH_ready (rs := [10]) (by kernel_rfl) (by simp) ?_
            refine AllReadyH.cons rfl (fun K hK => ?_) AllReadyH.nil
            refine step_buildAd2 (by rfl) (.tmp 55) (.tmp 56) (by rfl) b a (by rfl) (by rfl) ?_; intro B57 wx h57 hbx; replace hS := hS.trans (hbx.mono hS.size); (try replace h51 := (h51.below hbx).more hbx.size); (try replace n52 := (n52.below hbx).more hbx.size); (try replace n58 := (n58.below hbx).more hbx.size); clear hbx
            refine hK.out _ _ ?_ (fun hHeld => ?_)
            · (try dsimp only); first | done | (exact hS)
            clear hK K
            try simp only [Act.put, List.getElem_toArray, List.getElem_cons_succ, List.getElem_cons_zero, List.setIfInBounds_toArray, List.set_cons_zero, List.set_cons_succ]
            refine wpAnyH_ready (rs := [11]) (by kernel_rfl) (by simp) ?_
            refine AllReadyH.cons rfl (fun K hK => ?_) AllReadyH.nil
            go_simp; go_at_call 10; refine (Note_at _ _ _ l now _ 2 2 [b, a] _ ((hl.below hS).more hS.size) h57 Y q HY.out HYL.out (by omega)).mono ?_; rintro e wx ⟨A58, c58, rfl, n58, m58, hbx⟩; replace hS := hS.trans (hbx.mono hS.size); (try replace h51 := (h51.below hbx).more hbx.size); (try replace h57 := (h57.below hbx).more hbx.size); (try replace n52 := (n52.below hbx).more hbx.size); clear hbx; try go_wp2_with fail
            refine hK.out _ _ ?_ (fun hHeld => ?_)
            · (try dsimp only); first | done | (exact hS)
            clear hK K
            try simp only [Act.put, List.getElem_toArray, List.getElem_cons_succ, List.getElem_cons_zero, List.setIfInBounds_toArray, List.set_cons_zero, List.set_cons_succ]
            first
              | (refine wpAnyH_take (i := 12) (v := ?_) rfl (by kernel_rfl) (by kernel_rfl) (by kernel_rfl) (fun _ _ _ h => h) (Or.inl ⟨by rfl, ?_⟩) hHeld ?_; rotate_left; (intro wq hSw; (try dsimp only at hSw); go_simp; done))
              | (refine wpAnyH_take (i := 12) (v := ?_) rfl (by kernel_rfl) (by kernel_rfl) (by kernel_rfl) (fun _ _ _ h => h) (Or.inl ⟨by rfl, ?_⟩) hHeld ?_; rotate_left; (intro wq hSw; (try dsimp only at hSw); go_simp; with_reducible rfl))
              | refine wpAnyH_take (i := 12) (v := undef) rfl (by kernel_rfl) (by kernel_rfl) (by kernel_rfl) (fun _ _ _ h => h) (Or.inr ⟨by rfl, rfl⟩) hHeld ?_
            try simp only [Act.put, List.getElem_toArray, List.getElem_cons_succ, List.getElem_cons_zero, List.setIfInBounds_toArray, List.set_cons_zero, List.set_cons_succ]
            first
              | (refine wpAnyH_take (i := 13) (v := ?_) rfl (by kernel_rfl) (by kernel_rfl) (by kernel_rfl) (fun _ _ _ h => h) (Or.inl ⟨by rfl, ?_⟩) hHeld ?_; rotate_left; (intro wq hSw; (try dsimp only at hSw); go_simp; done))
              | (refine wpAnyH_take (i := 13) (v := ?_) rfl (by kernel_rfl) (by kernel_rfl) (by kernel_rfl) (fun _ _ _ h => h) (Or.inl ⟨by rfl, ?_⟩) hHeld ?_; rotate_left; (intro wq hSw; (try dsimp only at hSw); go_simp; with_reducible rfl))
              | refine wpAnyH_take (i := 13) (v := undef) rfl (by kernel_rfl) (by kernel_rfl) (by kernel_rfl) (fun _ _ _ h => h) (Or.inr ⟨by rfl, rfl⟩) hHeld ?_
            try simp only [Act.put, List.getElem_toArray, List.getElem_cons_succ, List.getElem_cons_zero, List.setIfInBounds_toArray, List.set_cons_zero, List.set_cons_succ]
            refine wpAnyH_done (by kernel_rfl) ?_ _
            (go_wp2_with fail; go_meet; case rel => exact ⟨_, _, _, _, rfl, rfl, n52, n58, m52, m58, hS⟩)
          refine AllReadyH.cons rfl (fun K hK => ?_) AllReadyH.nil
          refine step_buildAd2 (by rfl) (.tmp 55) (.tmp 56) (by rfl) b a (by rfl) (by rfl) ?_; intro B57 wx h57 hbx; replace hS := hS.trans (hbx.mono hS.size); (try replace h51 := (h51.below hbx).more hbx.size); (try replace n52 := (n52.below hbx).more hbx.size); (try replace n58 := (n58.below hbx).more hbx.size); clear hbx
          refine hK.out _ _ ?_ (fun hHeld => ?_)
          · (try dsimp only); first | done | (exact hS)
          clear hK K
          try simp only [Act.put, List.getElem_toArray, List.getElem_cons_succ, List.getElem_cons_zero, List.setIfInBounds_toArray, List.set_cons_zero, List.set_cons_succ]
          refine wpAnyH_ready (rs := [5]) (by kernel_rfl) (by simp) ?_
          refine AllReadyH.cons rfl (fun K hK => ?_) AllReadyH.nil
          go_simp; go_at_call 10; refine (Note_at _ _ _ l now _ 2 2 [a, b] _ ((hl.below hS).more hS.size) h51 X q HX.out HXL.out (by omega)).mono ?_; rintro e wx ⟨A52, c52, rfl, n52, m52, hbx⟩; replace hS := hS.trans (hbx.mono hS.size); (try replace h51 := (h51.below hbx).more hbx.size); (try replace h57 := (h57.below hbx).more hbx.size); (try replace n58 := (n58.below hbx).more hbx.size); clear hbx; try go_wp2_with fail
          refine hK.out _ _ ?_ (fun hHeld => ?_)
          · (try dsimp only); first | done | (exact hS)
          clear hK K
          try simp only [Act.put, List.getElem_toArray, List.getElem_cons_succ, List.getElem_cons_zero, List.setIfInBounds_toArray, List.set_cons_zero, List.set_cons_succ]
          refine wpAnyH_ready (rs := [11]) (by kernel_rfl) (by simp) ?_
          refine AllReadyH.cons rfl (fun K hK => ?_) AllReadyH.nil
          go_simp; go_at_call 10; refine (Note_at _ _ _ l now _ 2 2 [b, a] _ ((hl.below hS).more hS.size) h57 Y q HY.out HYL.out (by omega)).mono ?_; rintro e wx ⟨A58, c58, rfl, n58, m58, hbx⟩; replace hS := hS.trans (hbx.mono hS.size); (try replace h51 := (h51.below hbx).more hbx.size); (try replace h57 := (h57.below hbx).more hbx.size); (try replace n52 := (n52.below hbx).more hbx.size); clear hbx; try go_wp2_with fail
          refine hK.out _ _ ?_ (fun hHeld => ?_)
          · (try dsimp only); first | done | (exact hS)
          clear hK K
          try simp only [Act.put, List.getElem_toArray, List.getElem_cons_succ, List.getElem_cons_zero, List.setIfInBounds_toArray, List.set_cons_zero, List.set_cons_succ]
          first
            | (refine wpAnyH_take (i := 12) (v := ?_) rfl (by kernel_rfl) (by kernel_rfl) (by kernel_rfl) (fun _ _ _ h => h) (Or.inl ⟨by rfl, ?_⟩) hHeld ?_; rotate_left; (intro wq hSw; (try dsimp only at hSw); go_simp; done))
            | (refine wpAnyH_take (i := 12) (v := ?_) rfl (by kernel_rfl) (by kernel_rfl) (by kernel_rfl) (fun _ _ _ h => h) (Or.inl ⟨by rfl, ?_⟩) hHeld ?_; rotate_left; (intro wq hSw; (try dsimp only at hSw); go_simp; with_reducible rfl))
            | refine wpAnyH_take (i := 12) (v := undef) rfl (by kernel_rfl) (by kernel_rfl) (by kernel_rfl) (fun _ _ _ h => h) (Or.inr ⟨by rfl, rfl⟩) hHeld ?_
          try simp only [Act.put, List.getElem_toArray, List.getElem_cons_succ, List.getElem_cons_zero, List.setIfInBounds_toArray, List.set_cons_zero, List.set_cons_succ]
          first
            | (refine wpAnyH_take (i := 13) (v := ?_) rfl (by kernel_rfl) (by kernel_rfl) (by kernel_rfl) (fun _ _ _ h => h) (Or.inl ⟨by rfl, ?_⟩) hHeld ?_; rotate_left; (intro wq hSw; (try dsimp only at hSw); go_simp; done))
            | (refine wpAnyH_take (i := 13) (v := ?_) rfl (by kernel_rfl) (by kernel_rfl) (by kernel_rfl) (fun _ _ _ h => h) (Or.inl ⟨by rfl, ?_⟩) hHeld ?_; rotate_left; (intro wq hSw; (try dsimp only at hSw); go_simp; with_reducible rfl))
            | refine wpAnyH_take (i := 13) (v := undef) rfl (by kernel_rfl) (by kernel_rfl) (by kernel_rfl) (fun _ _ _ h => h) (Or.inr ⟨by rfl, rfl⟩) hHeld ?_
          try simp only [Act.put, List.getElem_toArray, List.getElem_cons_succ, List.getElem_cons_zero, List.setIfInBounds_toArray, List.set_cons_zero, List.set_cons_succ]
          refine wpAnyH_done (by kernel_rfl) ?_ _
          (go_wp2_with fail; go_meet; case rel => exact ⟨_, _, _, _, rfl, rfl, n52, n58, m52, m58, hS⟩)
        refine AllReadyH.cons rfl (fun K hK => ?_) AllReadyH.nil
        refine step_buildAd2 (by rfl) (.tmp 55) (.tmp 56) (by rfl) b a (by rfl) (by rfl) ?_; intro B57 wx h57 hbx; replace hS := hS.trans (hbx.mono hS.size); (try replace h51 := (h51.below hbx).more hbx.size); (try replace n52 := (n52.below hbx).more hbx.size); (try replace n58 := (n58.below hbx).more hbx.size); clear hbx
        refine hK.out _ _ ?_ (fun hHeld => ?_)
        · (try dsimp only); first | done | (exact hS)
        clear hK K
        try simp only [Act.put, List.getElem_toArray, List.getElem_cons_succ, List.getElem_cons_zero, List.setIfInBounds_toArray, List.set_cons_zero, List.set_cons_succ]
        refine wpAnyH_ready (rs := [4]) (by kernel_rfl) (by simp) ?_
        refine AllReadyH.cons rfl (fun K hK => ?_) AllReadyH.nil
        refine step_buildAd2 (by rfl) (.tmp 49) (.tmp 50) (by rfl) a b (by rfl) (by rfl) ?_; intro B51 wx h51 hbx; replace hS := hS.trans (hbx.mono hS.size); (try replace h57 := (h57.below hbx).more hbx.size); (try replace n52 := (n52.below hbx).more hbx.size); (try replace n58 := (n58.below hbx).more hbx.size); clear hbx
        refine hK.out _ _ ?_ (fun hHeld => ?_)
        · (try dsimp only); first | done | (exact hS)
        clear hK K
        try simp only [Act.put, List.getElem_toArray, List.getElem_cons_succ, List.getElem_cons_zero, List.setIfInBounds_toArray, List.set_cons_zero, List.set_cons_succ]
        refine wpAnyH_ready (rs := [5]) (by kernel_rfl) (by simp) ?_
        refine AllReadyH.cons rfl (fun K hK => ?_) AllReadyH.nil
        go_simp; go_at_call 10; refine (Note_at _ _ _ l now _ 2 2 [a, b] _ ((hl.below hS).more hS.size) h51 X q HX.out HXL.out (by omega)).mono ?_; rintro e wx ⟨A52, c52, rfl, n52, m52, hbx⟩; replace hS := hS.trans (hbx.mono hS.size); (try replace h51 := (h51.below hbx).more hbx.size); (try replace h57 := (h57.below hbx).more hbx.size); (try replace n58 := (n58.below hbx).more hbx.size); clear hbx; try go_wp2_with fail
        refine hK.out _ _ ?_ (fun hHeld => ?_)
        · (try dsimp only); first | done | (exact hS)
        clear hK K
        try simp only [Act.put, List.getElem_toArray, List.getElem_cons_succ, List.getElem_cons_zero, List.setIfInBounds_toArray, List.set_cons_zero, List.set_cons_succ]
        refine wpAnyH_ready (rs := [11]) (by kernel_rfl) (by simp) ?_
        refine AllReadyH.cons rfl (fun K hK => ?_) AllReadyH.nil
        go_simp; go_at_call 10; refine (Note_at _ _ _ l now _ 2 2 [b, a] _ ((hl.below hS).more hS.size) h57 Y q HY.out HYL.out (by omega)).mono ?_; rintro e wx ⟨A58, c58, rfl, n58, m58, hbx⟩; replace hS := hS.trans (hbx.mono hS.size); (try replace h51 := (h51.below hbx).more hbx.size); (try replace h57 := (h57.below hbx).more hbx.size); (try replace n52 := (n52.below hbx).more hbx.size); clear hbx; try go_wp2_with fail
        refine hK.out _ _ ?_ (fun hHeld => ?_)
        · (try dsimp only); first | done | (exact hS)
        clear hK K
        try simp only [Act.put, List.getElem_toArray, List.getElem_cons_succ, List.getElem_cons_zero, List.setIfInBounds_toArray, List.set_cons_zero, List.set_cons_succ]
        first
          | (refine wpAnyH_take (i := 12) (v := ?_) rfl (by kernel_rfl) (by kernel_rfl) (by kernel_rfl) (fun _ _ _ h => h) (Or.inl ⟨by rfl, ?_⟩) hHeld ?_; rotate_left; (intro wq hSw; (try dsimp only at hSw); go_simp; done))
          | (refine wpAnyH_take (i := 12) (v := ?_) rfl (by kernel_rfl) (by kernel_rfl) (by kernel_rfl) (fun _ _ _ h => h) (Or.inl ⟨by rfl, ?_⟩) hHeld ?_; rotate_left; (intro wq hSw; (try dsimp only at hSw); go_simp; with_reducible rfl))
          | refine wpAnyH_take (i := 12) (v := undef) rfl (by kernel_rfl) (by kernel_rfl) (by kernel_rfl) (fun _ _ _ h => h) (Or.inr ⟨by rfl, rfl⟩) hHeld ?_
        try simp only [Act.put, List.getElem_toArray, List.getElem_cons_succ, List.getElem_cons_zero, List.setIfInBounds_toArray, List.set_cons_zero, List.set_cons_succ]
        first
          | (refine wpAnyH_take (i := 13) (v := ?_) rfl (by kernel_rfl) (by kernel_rfl) (by kernel_rfl) (fun _ _ _ h => h) (Or.inl ⟨by rfl, ?_⟩) hHeld ?_; rotate_left; (intro wq hSw; (try dsimp only at hSw); go_simp; done))
          | (refine wpAnyH_take (i := 13) (v := ?_) rfl (by kernel_rfl) (by kernel_rfl) (by kernel_rfl) (fun _ _ _ h => h) (Or.inl ⟨by rfl, ?_⟩) hHeld ?_; rotate_left; (intro wq hSw; (try dsimp only at hSw); go_simp; with_reducible rfl))
          | refine wpAnyH_take (i := 13) (v := undef) rfl (by kernel_rfl) (by kernel_rfl) (by kernel_rfl) (fun _ _ _ h => h) (Or.inr ⟨by rfl, rfl⟩) hHeld ?_
        try simp only [Act.put, List.getElem_toArray, List.getElem_cons_succ, List.getElem_cons_zero, List.setIfInBounds_toArray, List.set_cons_zero, List.set_cons_succ]
        refine wpAnyH_done (by kernel_rfl) ?_ _
        (go_wp2_with fail; go_meet; case rel => exact ⟨_, _, _, _, rfl, rfl, n52, n58, m52, m58, hS⟩)
      case rest =>
        obtain ⟨A1, c1, A2, c2, rfl, rfl, r1, r2, m1, m2, hb2⟩ := hcut
        have hl3 := (hl.below hb2).more hb2.size
        replace hA := (hb2.block _ lA).trans hA
        replace hB := (hb2.block _ lB).trans hB
        replace lA := Nat.lt_of_lt_of_le lA hb2.size
        replace lB := Nat.lt_of_lt_of_le lB hb2.size
        replace hb := hb.trans (hb2.mono hb.size)
        replace hl := hl3
        clear hb2 hl3 hE
        have i0 : (1 : Int) ≤ (q : Int) := by omega
        have i1 : (2 : Int) ≤ (q : Int) := by omega
        have i2 : (0 : Int) ≤ (q : Int) - 1 := by omega
        have i3 : (q : Int) - 1 < (q : Int) := by omega
        have i5 : ((q : Int) - 1).toNat = q - 1 := by omega
        have i6 : IntKind.i64.wrap ((q : Int) - 1) = (q : Int) - 1 := IntWalk.i64_in _ (by omega)
        have j2 : (0 : Int) ≤ (q : Int) - 2 := by omega
        have j3 : (q : Int) - 2 < (q : Int) := by omega
        have j4 : (q : Int) - 2 ≤ (c1 : Int) := by omega
        have j44 : (q : Int) - 2 ≤ (c2 : Int) := by omega
        have j5 : ((q : Int) - 2).toNat = q - 2 := by omega
        have j6 : IntKind.i64.wrap ((q : Int) - 2) = (q : Int) - 2 := IntWalk.i64_in _ (by omega)
        have k1 : decide ((q : Int) < 2) = false := by simp; omega
        have k2 : decide (q < 2) = false := by simp; omega
        obtain ⟨z0, z1, z2, z3, z4, z5, z6, z7, z8, z9⟩ := ad_cells hA
        obtain ⟨y0, y1, y2, y3, y4, y5, y6, y7, y8, y9⟩ := ad_cells hB
        obtain ⟨bp, offp, yp, ep, hbp, hyp, cp0, cp1, cp2, cp3, cp4, cp5, cp6, cp7, cp8, cp9, cp10⟩ := Scs.cells r1 (i := q - 1) (by omega)
        obtain rfl : yp = (b, now) := by have h1 := hyp.out; rw [X1.out] at h1; injection h1 with h1; exact h1.symm
        subst ep
        obtain ⟨br, offr, yr, er, hbr, hyr, cr0, cr1, cr2, cr3, cr4, cr5, cr6, cr7, cr8, cr9, cr10⟩ := Scs.cells r1 (i := q - 2) (by omega)
        obtain rfl : yr = (a, now) := by have h1 := hyr.out; rw [X2.out] at h1; injection h1 with h1; exact h1.symm
        injection er with er
        injection er with er er2
        subst er er2
        obtain ⟨bs, offs, ys, es, hbs, hys, cs0, cs1, cs2, cs3, cs4, cs5, cs6, cs7, cs8, cs9, cs10⟩ := Scs.cells r2 (i := q - 1) (by omega)
        obtain rfl : ys = (a, now) := by have h1 := hys.out; rw [Y1.out] at h1; injection h1 with h1; exact h1.symm
        subst es
        obtain ⟨bt, offt, yt, et, hbt, hyt, ct0, ct1, ct2, ct3, ct4, ct5, ct6, ct7, ct8, ct9, ct10⟩ := Scs.cells r2 (i := q - 2) (by omega)
        obtain rfl : yt = (b, now) := by have h1 := hyt.out; rw [Y2.out] at h1; injection h1 with h1; exact h1.symm
        injection et with et
        injection et with et et2
        subst et et2
        dsimp only at cp0 cp1 cp2 cp3 cp4 cp5 cp6 cp7 cp8 cp9 cp10 cr0 cr1 cr2 cr3 cr4 cr5 cr6 cr7 cr8 cr9 cr10 cs0 cs1 cs2 cs3 cs4 cs5 cs6 cs7 cs8 cs9 cs10 ct0 ct1 ct2 ct3 ct4 ct5 ct6 ct7 ct8 ct9 ct10
        have hE1 := fun wx => eqAd a a wx
        have hE2 := fun wx => eqAd b b wx
        have hE3 := fun wx => eqSc (a, now) (a, now) wx
        have hE4 := fun wx => eqSc (b, now) (b, now) wx
        rw [decide_eq_true rfl] at hE1 hE2 hE3 hE4
        unfold valAd at hE1 hE2
        unfold valSc at hE3 hE4
        dsimp only at hE3 hE4
        have rp := Recs.pre encSc_len r1 (k := q - 2) (by omega)
        have rq := Recs.pre encSc_len r2 (k := q - 2) (by omega)
        rw [X3.out] at rp
        rw [Y3.out] at rq
        go_upto_region 13 with fail
        refine wp_region_still_tail 63 (by kernel_rfl) (by kernel_rfl) ?_
        simp [List.take_succ_cons]
        repeat still_step
        refine wpStill_nil ?_
        change wpList _ _ _ _ _ wc.drew
        go_wp2_with fail
        refine (rSame12_sameS _ _ (q - 2) _ _ _ _ H _ rp.drew rq.drew (by omega)).mono ?_
        rintro e w3 ⟨rfl, hbx⟩
        replace hbx : Below wc.heap.size wc w3 := (Below.refl wc.heap.size wc).drew.trans hbx
        clear cp0 cp1 cp2 cp3 cp4 cp5 cp6 cp7 cp8 cp9 cp10 cr0 cr1 cr2 cr3 cr4 cr5 cr6 cr7 cr8 cr9 cr10 cs0 cs1 cs2 cs3 cs4 cs5 cs6 cs7 cs8 cs9 cs10 ct0 ct1 ct2 ct3 ct4 ct5 ct6 ct7 ct8 ct9 ct10 z0 z1 z2 z3 z4 z5 z6 z7 z8 z9 y0 y1 y2 y3 y4 y5 y6 y7 y8 y9
        replace r1 := (r1.below hbx).more hbx.size
        replace rp := (rp.below hbx).more hbx.size
        replace hl := (hl.below hbx).more hbx.size
        replace hA := (hbx.block _ lA).trans hA
        replace hB := (hbx.block _ lB).trans hB
        replace lA := Nat.lt_of_lt_of_le lA hbx.size
        replace lB := Nat.lt_of_lt_of_le lB hbx.size
        replace hb := hb.trans (hbx.mono hb.size)
        clear hbx rq r2
        obtain ⟨z0, z1, z2, z3, z4, z5, z6, z7, z8, z9⟩ := ad_cells hA
        obtain ⟨y0, y1, y2, y3, y4, y5, y6, y7, y8, y9⟩ := ad_cells hB
        go_wp2_with fail
        refine (Heal_at _ _ _ l _ 2 2 [a, b] _ ((hl.alloc (Nat.le_refl _) _).more (by first | omega | (simp; done) | (simp; omega))) (by omega) ((Ads.new2 _ _ (by first | omega | (simp; done) | (simp; omega)) a b _).more (by first | omega | (simp; done) | (simp; omega))) (by omega) H (q - 2) HH.out HHL.out).mono ?_
        rintro e w4 ⟨A4, c4, rfl, r3, hbx⟩
        replace hbx := (Below.new_ w3 _).trans (hbx.mono (by first | omega | (simp; done) | (simp; omega)))
        clear z0 z1 z2 z3 z4 z5 z6 z7 z8 z9 y0 y1 y2 y3 y4 y5 y6 y7 y8 y9
        replace r1 := (r1.below hbx).more hbx.size
        replace rp := (rp.below hbx).more hbx.size
        replace hl := (hl.below hbx).more hbx.size
        replace hA := (hbx.block _ lA).trans hA
        replace hB := (hbx.block _ lB).trans hB
        replace lA := Nat.lt_of_lt_of_le lA hbx.size
        replace lB := Nat.lt_of_lt_of_le lB hbx.size
        replace hb := hb.trans (hbx.mono hb.size)
        clear hbx
        go_upto_region 16 with fail
        have hS : Below w4.heap.size w4 w4.drew := (Below.refl _ _).drew
        refine wp_region_held_drew (S := (fun wx => Below w4.heap.size w4 wx)) (by kernel_rfl) ?_ (fun hHeld => ?_)
        · (try dsimp only); first | done | (exact hS)
        first
          | (refine wpAnyH_take (i := 0) (v := ?_) rfl (by kernel_rfl) (by kernel_rfl) (by kernel_rfl) (fun _ _ _ h => h) (Or.inl ⟨by rfl, ?_⟩) hHeld ?_; rotate_left; (intro wq hSw; (try dsimp only at hSw); go_simp; done))
          | (refine wpAnyH_take (i := 0) (v := ?_) rfl (by kernel_rfl) (by kernel_rfl) (by kernel_rfl) (fun _ _ _ h => h) (Or.inl ⟨by rfl, ?_⟩) hHeld ?_; rotate_left; (intro wq hSw; (try dsimp only at hSw); go_simp; with_reducible rfl))
          | refine wpAnyH_take (i := 0) (v := undef) rfl (by kernel_rfl) (by kernel_rfl) (by kernel_rfl) (fun _ _ _ h => h) (Or.inr ⟨by rfl, rfl⟩) hHeld ?_
        try simp only [Act.put, List.getElem_toArray, List.getElem_cons_succ, List.getElem_cons_zero, List.setIfInBounds_toArray, List.set_cons_zero, List.set_cons_succ]
        first
          | (refine wpAnyH_take (i := 1) (v := ?_) rfl (by kernel_rfl) (by kernel_rfl) (by kernel_rfl) (fun _ _ _ h => h) (Or.inl ⟨by rfl, ?_⟩) hHeld ?_; rotate_left; (intro wq hSw; (try dsimp only at hSw); obtain ⟨z0, z1, z2, z3, z4, z5, z6, z7, z8, z9⟩ := ad_cells ((hSw.block _ lB).trans hB); go_simp; done))
          | (refine wpAnyH_take (i := 1) (v := ?_) rfl (by kernel_rfl) (by kernel_rfl) (by kernel_rfl) (fun _ _ _ h => h) (Or.inl ⟨by rfl, ?_⟩) hHeld ?_; rotate_left; (intro wq hSw; (try dsimp only at hSw); obtain ⟨z0, z1, z2, z3, z4, z5, z6, z7, z8, z9⟩ := ad_cells ((hSw.block _ lB).trans hB); go_simp; with_reducible rfl))
          | refine wpAnyH_take (i := 1) (v := undef) rfl (by kernel_rfl) (by kernel_rfl) (by kernel_rfl) (fun _ _ _ h => h) (Or.inr ⟨by rfl, rfl⟩) hHeld ?_
        try simp only [Act.put, List.getElem_toArray, List.getElem_cons_succ, List.getElem_cons_zero, List.setIfInBounds_toArray, List.set_cons_zero, List.set_cons_succ]
        first
          | (refine wpAnyH_take (i := 2) (v := ?_) rfl (by kernel_rfl) (by kernel_rfl) (by kernel_rfl) (fun _ _ _ h => h) (Or.inl ⟨by rfl, ?_⟩) hHeld ?_; rotate_left; (intro wq hSw; (try dsimp only at hSw); obtain ⟨z0, z1, z2, z3, z4, z5, z6, z7, z8, z9⟩ := ad_cells ((hSw.block _ lA).trans hA); go_simp; done))
          | (refine wpAnyH_take (i := 2) (v := ?_) rfl (by kernel_rfl) (by kernel_rfl) (by kernel_rfl) (fun _ _ _ h => h) (Or.inl ⟨by rfl, ?_⟩) hHeld ?_; rotate_left; (intro wq hSw; (try dsimp only at hSw); obtain ⟨z0, z1, z2, z3, z4, z5, z6, z7, z8, z9⟩ := ad_cells ((hSw.block _ lA).trans hA); go_simp; with_reducible rfl))
          | refine wpAnyH_take (i := 2) (v := undef) rfl (by kernel_rfl) (by kernel_rfl) (by kernel_rfl) (fun _ _ _ h => h) (Or.inr ⟨by rfl, rfl⟩) hHeld ?_
        try simp only [Act.put, List.getElem_toArray, List.getElem_cons_succ, List.getElem_cons_zero, List.setIfInBounds_toArray, List.set_cons_zero, List.set_cons_succ]
        first
          | (refine wpAnyH_take (i := 5) (v := ?_) rfl (by kernel_rfl) (by kernel_rfl) (by kernel_rfl) (fun _ _ _ h => h) (Or.inl ⟨by rfl, ?_⟩) hHeld ?_; rotate_left; (intro wq hSw; (try dsimp only at hSw); go_simp; done))
          | (refine wpAnyH_take (i := 5) (v := ?_) rfl (by kernel_rfl) (by kernel_rfl) (by kernel_rfl) (fun _ _ _ h => h) (Or.inl ⟨by rfl, ?_⟩) hHeld ?_; rotate_left; (intro wq hSw; (try dsimp only at hSw); go_simp; with_reducible rfl))
          | refine wpAnyH_take (i := 5) (v := undef) rfl (by kernel_rfl) (by kernel_rfl) (by kernel_rfl) (fun _ _ _ h => h) (Or.inr ⟨by rfl, rfl⟩) hHeld ?_
        try simp only [Act.put, List.getElem_toArray, List.getElem_cons_succ, List.getElem_cons_zero, List.setIfInBounds_toArray, List.set_cons_zero, List.set_cons_succ]
        refine wpAnyH_ready (rs := [3]) (by kernel_rfl) (by simp) ?_
        refine AllReadyH.cons rfl (fun K hK => ?_) AllReadyH.nil
        refine step_buildAd2 (by rfl) (.tmp 133) (.tmp 134) (by rfl) b a (by rfl) (by rfl) ?_; intro B135 wx h135 hbx; replace hS := hS.trans (hbx.mono hS.size); (try replace h150 := (h150.below hbx).more hbx.size); (try replace h153 := (h153.below hbx).more hbx.size); (try replace n136 := (n136.below hbx).more hbx.size); (try replace n151 := (n151.below hbx).more hbx.size); (try replace n154 := (n154.below hbx).more hbx.size); clear hbx
        refine hK.out _ _ ?_ (fun hHeld => ?_)
        · (try dsimp only); first | done | (exact hS)
        clear hK K
        try simp only [Act.put, List.getElem_toArray, List.getElem_cons_succ, List.getElem_cons_zero, List.setIfInBounds_toArray, List.set_cons_zero, List.set_cons_succ]
        refine wpAnyH_ready (rs := [4]) (by kernel_rfl) (by simp) ?_
        refine AllReadyH.cons rfl (fun K hK => ?_) AllReadyH.nil
        go_simp; go_at_call 13; refine (Heal_at _ _ _ X _ 2 2 [b, a] _ ((r1.below hS).more hS.size) (by omega) h135 (by omega) H (q - 2) HZ.out HHL.out).mono ?_; rintro e wx ⟨A136, c136, rfl, n136, hbx⟩; replace hS := hS.trans (hbx.mono hS.size); (try replace h135 := (h135.below hbx).more hbx.size); (try replace h150 := (h150.below hbx).more hbx.size); (try replace h153 := (h153.below hbx).more hbx.size); (try replace n151 := (n151.below hbx).more hbx.size); (try replace n154 := (n154.below hbx).more hbx.size); clear hbx; try go_wp2_with fail
        refine hK.out _ _ ?_ (fun hHeld => ?_)
        · (try dsimp only); first | done | (exact hS)
        clear hK K
        try simp only [Act.put, List.getElem_toArray, List.getElem_cons_succ, List.getElem_cons_zero, List.setIfInBounds_toArray, List.set_cons_zero, List.set_cons_succ]
        refine wpAnyH_ready (rs := [6]) (by kernel_rfl) (by simp) ?_
        refine AllReadyH.cons rfl (fun K hK => ?_) AllReadyH.nil
        go_simp; go_at_call 22; refine (SameSc_same _ _ (q - 2) _ _ H _ n136 ((r3.below hS).more hS.size) (by omega)).mono ?_; rintro e wx ⟨rfl, hbx⟩; replace hS := hS.trans (hbx.mono hS.size); (try replace h135 := (h135.below hbx).more hbx.size); (try replace h150 := (h150.below hbx).more hbx.size); (try replace h153 := (h153.below hbx).more hbx.size); (try replace n136 := (n136.below hbx).more hbx.size); (try replace n151 := (n151.below hbx).more hbx.size); (try replace n154 := (n154.below hbx).more hbx.size); clear hbx; try go_wp2_with fail
        refine hK.out _ _ ?_ (fun hHeld => ?_)
        · (try dsimp only); first | done | (exact hS)
        clear hK K
        try simp only [Act.put, List.getElem_toArray, List.getElem_cons_succ, List.getElem_cons_zero, List.setIfInBounds_toArray, List.set_cons_zero, List.set_cons_succ]
        first
          | (refine wpAnyH_take (i := 7) (v := ?_) rfl (by kernel_rfl) (by kernel_rfl) (by kernel_rfl) (fun _ _ _ h => h) (Or.inl ⟨by rfl, ?_⟩) hHeld ?_; rotate_left; (intro wq hSw; (try dsimp only at hSw); go_simp; done))
          | (refine wpAnyH_take (i := 7) (v := ?_) rfl (by kernel_rfl) (by kernel_rfl) (by kernel_rfl) (fun _ _ _ h => h) (Or.inl ⟨by rfl, ?_⟩) hHeld ?_; rotate_left; (intro wq hSw; (try dsimp only at hSw); go_simp; with_reducible rfl))
          | refine wpAnyH_take (i := 7) (v := undef) rfl (by kernel_rfl) (by kernel_rfl) (by kernel_rfl) (fun _ _ _ h => h) (Or.inr ⟨by rfl, rfl⟩) hHeld ?_
        try simp only [Act.put, List.getElem_toArray, List.getElem_cons_succ, List.getElem_cons_zero, List.setIfInBounds_toArray, List.set_cons_zero, List.set_cons_succ]
        first
          | (refine wpAnyH_take (i := 8) (v := ?_) rfl (by kernel_rfl) (by kernel_rfl) (by kernel_rfl) (fun _ _ _ h => h) (Or.inl ⟨by rfl, ?_⟩) hHeld ?_; rotate_left; (intro wq hSw; (try dsimp only at hSw); go_simp; done))
          | (refine wpAnyH_take (i := 8) (v := ?_) rfl (by kernel_rfl) (by kernel_rfl) (by kernel_rfl) (fun _ _ _ h => h) (Or.inl ⟨by rfl, ?_⟩) hHeld ?_; rotate_left; (intro wq hSw; (try dsimp only at hSw); go_simp; with_reducible rfl))
          | refine wpAnyH_take (i := 8) (v := undef) rfl (by kernel_rfl) (by kernel_rfl) (by kernel_rfl) (fun _ _ _ h => h) (Or.inr ⟨by rfl, rfl⟩) hHeld ?_
        try simp only [Act.put, List.getElem_toArray, List.getElem_cons_succ, List.getElem_cons_zero, List.setIfInBounds_toArray, List.set_cons_zero, List.set_cons_succ]
        first
          | (refine wpAnyH_take (i := 9) (v := ?_) rfl (by kernel_rfl) (by kernel_rfl) (by kernel_rfl) (fun _ _ _ h => h) (Or.inl ⟨by rfl, ?_⟩) hHeld ?_; rotate_left; (intro wq hSw; (try dsimp only at hSw); go_simp; done))
          | (refine wpAnyH_take (i := 9) (v := ?_) rfl (by kernel_rfl) (by kernel_rfl) (by kernel_rfl) (fun _ _ _ h => h) (Or.inl ⟨by rfl, ?_⟩) hHeld ?_; rotate_left; (intro wq hSw; (try dsimp only at hSw); go_simp; with_reducible rfl))
          | refine wpAnyH_take (i := 9) (v := undef) rfl (by kernel_rfl) (by kernel_rfl) (by kernel_rfl) (fun _ _ _ h => h) (Or.inr ⟨by rfl, rfl⟩) hHeld ?_
        try simp only [Act.put, List.getElem_toArray, List.getElem_cons_succ, List.getElem_cons_zero, List.setIfInBounds_toArray, List.set_cons_zero, List.set_cons_succ]
        first
          | (refine wpAnyH_take (i := 10) (v := ?_) rfl (by kernel_rfl) (by kernel_rfl) (by kernel_rfl) (fun _ _ _ h => h) (Or.inl ⟨by rfl, ?_⟩) hHeld ?_; rotate_left; (intro wq hSw; (try dsimp only at hSw); go_simp; done))
          | (refine wpAnyH_take (i := 10) (v := ?_) rfl (by kernel_rfl) (by kernel_rfl) (by kernel_rfl) (fun _ _ _ h => h) (Or.inl ⟨by rfl, ?_⟩) hHeld ?_; rotate_left; (intro wq hSw; (try dsimp only at hSw); go_simp; with_reducible rfl))
          | refine wpAnyH_take (i := 10) (v := undef) rfl (by kernel_rfl) (by kernel_rfl) (by kernel_rfl) (fun _ _ _ h => h) (Or.inr ⟨by rfl, rfl⟩) hHeld ?_
        try simp only [Act.put, List.getElem_toArray, List.getElem_cons_succ, List.getElem_cons_zero, List.setIfInBounds_toArray, List.set_cons_zero, List.set_cons_succ]
        first
          | (refine wpAnyH_take (i := 11) (v := ?_) rfl (by kernel_rfl) (by kernel_rfl) (by kernel_rfl) (fun _ _ _ h => h) (Or.inl ⟨by rfl, ?_⟩) hHeld ?_; rotate_left; (intro wq hSw; (try dsimp only at hSw); go_simp; done))
          | (refine wpAnyH_take (i := 11) (v := ?_) rfl (by kernel_rfl) (by kernel_rfl) (by kernel_rfl) (fun _ _ _ h => h) (Or.inl ⟨by rfl, ?_⟩) hHeld ?_; rotate_left; (intro wq hSw; (try dsimp only at hSw); go_simp; with_reducible rfl))
          | refine wpAnyH_take (i := 11) (v := undef) rfl (by kernel_rfl) (by kernel_rfl) (by kernel_rfl) (fun _ _ _ h => h) (Or.inr ⟨by rfl, rfl⟩) hHeld ?_
        try simp only [Act.put, List.getElem_toArray, List.getElem_cons_succ, List.getElem_cons_zero, List.setIfInBounds_toArray, List.set_cons_zero, List.set_cons_succ]
        first
          | (refine wpAnyH_take (i := 12) (v := ?_) rfl (by kernel_rfl) (by kernel_rfl) (by kernel_rfl) (fun _ _ _ h => h) (Or.inl ⟨by rfl, ?_⟩) hHeld ?_; rotate_left; (intro wq hSw; (try dsimp only at hSw); go_simp; done))
          | (refine wpAnyH_take (i := 12) (v := ?_) rfl (by kernel_rfl) (by kernel_rfl) (by kernel_rfl) (fun _ _ _ h => h) (Or.inl ⟨by rfl, ?_⟩) hHeld ?_; rotate_left; (intro wq hSw; (try dsimp only at hSw); go_simp; with_reducible rfl))
          | refine wpAnyH_take (i := 12) (v := undef) rfl (by kernel_rfl) (by kernel_rfl) (by kernel_rfl) (fun _ _ _ h => h) (Or.inr ⟨by rfl, rfl⟩) hHeld ?_
        try simp only [Act.put, List.getElem_toArray, List.getElem_cons_succ, List.getElem_cons_zero, List.setIfInBounds_toArray, List.set_cons_zero, List.set_cons_succ]
        refine wpAnyH_ready (rs := [13]) (by kernel_rfl) (by simp) ?_
        refine AllReadyH.cons rfl (fun K hK => ?_) AllReadyH.nil
        go_simp; go_at_call 22; refine (SameSc_same _ _ (q - 2) _ _ H _ ((r3.below hS).more hS.size) ((rp.below hS).more hS.size) (by omega)).mono ?_; rintro e wx ⟨rfl, hbx⟩; replace hS := hS.trans (hbx.mono hS.size); (try replace h135 := (h135.below hbx).more hbx.size); (try replace h150 := (h150.below hbx).more hbx.size); (try replace h153 := (h153.below hbx).more hbx.size); (try replace n136 := (n136.below hbx).more hbx.size); (try replace n151 := (n151.below hbx).more hbx.size); (try replace n154 := (n154.below hbx).more hbx.size); clear hbx; try go_wp2_with fail
        refine hK.out _ _ ?_ (fun hHeld => ?_)
        · (try dsimp only); first | done | (exact hS)
        clear hK K
        try simp only [Act.put, List.getElem_toArray, List.getElem_cons_succ, List.getElem_cons_zero, List.setIfInBounds_toArray, List.set_cons_zero, List.set_cons_succ]
        first
          | (refine wpAnyH_take (i := 14) (v := ?_) rfl (by kernel_rfl) (by kernel_rfl) (by kernel_rfl) (fun _ _ _ h => h) (Or.inl ⟨by rfl, ?_⟩) hHeld ?_; rotate_left; (intro wq hSw; (try dsimp only at hSw); go_simp; done))
          | (refine wpAnyH_take (i := 14) (v := ?_) rfl (by kernel_rfl) (by kernel_rfl) (by kernel_rfl) (fun _ _ _ h => h) (Or.inl ⟨by rfl, ?_⟩) hHeld ?_; rotate_left; (intro wq hSw; (try dsimp only at hSw); go_simp; with_reducible rfl))
          | refine wpAnyH_take (i := 14) (v := undef) rfl (by kernel_rfl) (by kernel_rfl) (by kernel_rfl) (fun _ _ _ h => h) (Or.inr ⟨by rfl, rfl⟩) hHeld ?_
        try simp only [Act.put, List.getElem_toArray, List.getElem_cons_succ, List.getElem_cons_zero, List.setIfInBounds_toArray, List.set_cons_zero, List.set_cons_succ]
        first
          | (refine wpAnyH_take (i := 15) (v := ?_) rfl (by kernel_rfl) (by kernel_rfl) (by kernel_rfl) (fun _ _ _ h => h) (Or.inl ⟨by rfl, ?_⟩) hHeld ?_; rotate_left; (intro wq hSw; (try dsimp only at hSw); go_simp; done))
          | (refine wpAnyH_take (i := 15) (v := ?_) rfl (by kernel_rfl) (by kernel_rfl) (by kernel_rfl) (fun _ _ _ h => h) (Or.inl ⟨by rfl, ?_⟩) hHeld ?_; rotate_left; (intro wq hSw; (try dsimp only at hSw); go_simp; with_reducible rfl))
          | refine wpAnyH_take (i := 15) (v := undef) rfl (by kernel_rfl) (by kernel_rfl) (by kernel_rfl) (fun _ _ _ h => h) (Or.inr ⟨by rfl, rfl⟩) hHeld ?_
        try simp only [Act.put, List.getElem_toArray, List.getElem_cons_succ, List.getElem_cons_zero, List.setIfInBounds_toArray, List.set_cons_zero, List.set_cons_succ]
        first
          | (refine wpAnyH_take (i := 16) (v := ?_) rfl (by kernel_rfl) (by kernel_rfl) (by kernel_rfl) (fun _ _ _ h => h) (Or.inl ⟨by rfl, ?_⟩) hHeld ?_; rotate_left; (intro wq hSw; (try dsimp only at hSw); go_simp; done))
          | (refine wpAnyH_take (i := 16) (v := ?_) rfl (by kernel_rfl) (by kernel_rfl) (by kernel_rfl) (fun _ _ _ h => h) (Or.inl ⟨by rfl, ?_⟩) hHeld ?_; rotate_left; (intro wq hSw; (try dsimp only at hSw); go_simp; with_reducible rfl))
          | refine wpAnyH_take (i := 16) (v := undef) rfl (by kernel_rfl) (by kernel_rfl) (by kernel_rfl) (fun _ _ _ h => h) (Or.inr ⟨by rfl, rfl⟩) hHeld ?_
        try simp only [Act.put, List.getElem_toArray, List.getElem_cons_succ, List.getElem_cons_zero, List.setIfInBounds_toArray, List.set_cons_zero, List.set_cons_succ]
        first
          | (refine wpAnyH_take (i := 17) (v := ?_) rfl (by kernel_rfl) (by kernel_rfl) (by kernel_rfl) (fun _ _ _ h => h) (Or.inl ⟨by rfl, ?_⟩) hHeld ?_; rotate_left; (intro wq hSw; (try dsimp only at hSw); obtain ⟨z0, z1, z2, z3, z4, z5, z6, z7, z8, z9⟩ := ad_cells ((hSw.block _ lA).trans hA); go_simp; done))
          | (refine wpAnyH_take (i := 17) (v := ?_) rfl (by kernel_rfl) (by kernel_rfl) (by kernel_rfl) (fun _ _ _ h => h) (Or.inl ⟨by rfl, ?_⟩) hHeld ?_; rotate_left; (intro wq hSw; (try dsimp only at hSw); obtain ⟨z0, z1, z2, z3, z4, z5, z6, z7, z8, z9⟩ := ad_cells ((hSw.block _ lA).trans hA); go_simp; with_reducible rfl))
          | refine wpAnyH_take (i := 17) (v := undef) rfl (by kernel_rfl) (by kernel_rfl) (by kernel_rfl) (fun _ _ _ h => h) (Or.inr ⟨by rfl, rfl⟩) hHeld ?_
        try simp only [Act.put, List.getElem_toArray, List.getElem_cons_succ, List.getElem_cons_zero, List.setIfInBounds_toArray, List.set_cons_zero, List.set_cons_succ]
        first
          | (refine wpAnyH_take (i := 20) (v := ?_) rfl (by kernel_rfl) (by kernel_rfl) (by kernel_rfl) (fun _ _ _ h => h) (Or.inl ⟨by rfl, ?_⟩) hHeld ?_; rotate_left; (intro wq hSw; (try dsimp only at hSw); obtain ⟨z0, z1, z2, z3, z4, z5, z6, z7, z8, z9⟩ := ad_cells ((hSw.block _ lB).trans hB); go_simp; done))
          | (refine wpAnyH_take (i := 20) (v := ?_) rfl (by kernel_rfl) (by kernel_rfl) (by kernel_rfl) (fun _ _ _ h => h) (Or.inl ⟨by rfl, ?_⟩) hHeld ?_; rotate_left; (intro wq hSw; (try dsimp only at hSw); obtain ⟨z0, z1, z2, z3, z4, z5, z6, z7, z8, z9⟩ := ad_cells ((hSw.block _ lB).trans hB); go_simp; with_reducible rfl))
          | refine wpAnyH_take (i := 20) (v := undef) rfl (by kernel_rfl) (by kernel_rfl) (by kernel_rfl) (fun _ _ _ h => h) (Or.inr ⟨by rfl, rfl⟩) hHeld ?_
        try simp only [Act.put, List.getElem_toArray, List.getElem_cons_succ, List.getElem_cons_zero, List.setIfInBounds_toArray, List.set_cons_zero, List.set_cons_succ]
        first
          | (refine wpAnyH_take (i := 23) (v := ?_) rfl (by kernel_rfl) (by kernel_rfl) (by kernel_rfl) (fun _ _ _ h => h) (Or.inl ⟨by rfl, ?_⟩) hHeld ?_; rotate_left; (intro wq hSw; (try dsimp only at hSw); go_simp; done))
          | (refine wpAnyH_take (i := 23) (v := ?_) rfl (by kernel_rfl) (by kernel_rfl) (by kernel_rfl) (fun _ _ _ h => h) (Or.inl ⟨by rfl, ?_⟩) hHeld ?_; rotate_left; (intro wq hSw; (try dsimp only at hSw); go_simp; with_reducible rfl))
          | refine wpAnyH_take (i := 23) (v := undef) rfl (by kernel_rfl) (by kernel_rfl) (by kernel_rfl) (fun _ _ _ h => h) (Or.inr ⟨by rfl, rfl⟩) hHeld ?_
        try simp only [Act.put, List.getElem_toArray, List.getElem_cons_succ, List.getElem_cons_zero, List.setIfInBounds_toArray, List.set_cons_zero, List.set_cons_succ]
        refine wpAnyH_ready (rs := [18, 21]) (by kernel_rfl) (by simp) ?_
        refine AllReadyH.cons rfl (fun K hK => ?_) ?_
        ·
          refine step_buildAdG (by rfl) (.tmp 149) (by rfl) a (by rfl) ?_; intro B150 wx h150 hbx; replace hS := hS.trans (hbx.mono hS.size); (try replace h135 := (h135.below hbx).more hbx.size); (try replace h153 := (h153.below hbx).more hbx.size); (try replace n136 := (n136.below hbx).more hbx.size); (try replace n151 := (n151.below hbx).more hbx.size); (try replace n154 := (n154.below hbx).more hbx.size); clear hbx
          refine hK.out _ _ ?_ (fun hHeld => ?_)
          · (try dsimp only); first | done | (exact hS)
          clear hK K
          try simp only [Act.put, List.getElem_toArray, List.getElem_cons_succ, List.getElem_cons_zero, List.setIfInBounds_toArray, List.set_cons_zero, List.set_cons_succ]
          refine wpAnyH_ready (rs := [19, 21]) (by kernel_rfl) (by simp) ?_
          refine AllReadyH.cons rfl (fun K hK => ?_) ?_
          ·
            go_simp; go_at_call 13; refine (Heal_at _ _ _ l _ 1 1 [a] _ ((hl.below hS).more hS.size) (by omega) h150 (by omega) (healL l [a]) _ rfl rfl).mono ?_; rintro e wx ⟨A151, c151, rfl, n151, hbx⟩; replace hS := hS.trans (hbx.mono hS.size); (try replace h135 := (h135.below hbx).more hbx.size); (try replace h150 := (h150.below hbx).more hbx.size); (try replace h153 := (h153.below hbx).more hbx.size); (try replace n136 := (n136.below hbx).more hbx.size); (try replace n154 := (n154.below hbx).more hbx.size); clear hbx; try go_wp2_with fail
            refine hK.out _ _ ?_ (fun hHeld => ?_)
            · (try dsimp only); first | done | (exact hS)
            clear hK K
            try simp only [Act.put, List.getElem_toArray, List.getElem_cons_succ, List.getElem_cons_zero, List.setIfInBounds_toArray, List.set_cons_zero, List.set_cons_succ]
            refine wpAnyH_ready (rs := [21]) (by kernel_rfl) (by simp) ?_
            refine AllReadyH.cons rfl (fun K hK => ?_) AllReadyH.nil
            refine step_buildAdG (by rfl) (.tmp 152) (by rfl) b (by rfl) ?_; intro B153 wx h153 hbx; replace hS := hS.trans (hbx.mono hS.size); (try replace h135 := (h135.below hbx).more hbx.size); (try replace h150 := (h150.below hbx).more hbx.size); (try replace n136 := (n136.below hbx).more hbx.size); (try replace n151 := (n151.below hbx).more hbx.size); (try replace n154 := (n154.below hbx).more hbx.size); clear hbx
            refine hK.out _ _ ?_ (fun hHeld => ?_)
            · (try dsimp only); first | done | (exact hS)
            clear hK K
            try simp only [Act.put, List.getElem_toArray, List.getElem_cons_succ, List.getElem_cons_zero, List.setIfInBounds_toArray, List.set_cons_zero, List.set_cons_succ]
            refine wpAnyH_ready (rs := [22]) (by kernel_rfl) (by simp) ?_
            refine AllReadyH.cons rfl (fun K hK => ?_) AllReadyH.nil
            go_simp; go_at_call 13; refine (Heal_at _ _ _ (healL l [a]) _ 1 1 [b] _ n151 (Nat.le_trans HHA.out (by omega)) h153 (by omega) H (q - 2) HT.out HHL.out).mono ?_; rintro e wx ⟨A154, c154, rfl, n154, hbx⟩; replace hS := hS.trans (hbx.mono hS.size); (try replace h135 := (h135.below hbx).more hbx.size); (try replace h150 := (h150.below hbx).more hbx.size); (try replace h153 := (h153.below hbx).more hbx.size); (try replace n136 := (n136.below hbx).more hbx.size); (try replace n151 := (n151.below hbx).more hbx.size); clear hbx; try go_wp2_with fail
            refine hK.out _ _ ?_ (fun hHeld => ?_)
            · (try dsimp only); first | done | (exact hS)
            clear hK K
            try simp only [Act.put, List.getElem_toArray, List.getElem_cons_succ, List.getElem_cons_zero, List.setIfInBounds_toArray, List.set_cons_zero, List.set_cons_succ]
            refine wpAnyH_ready (rs := [24]) (by kernel_rfl) (by simp) ?_
            refine AllReadyH.cons rfl (fun K hK => ?_) AllReadyH.nil
            go_simp; go_at_call 22; refine (SameSc_same _ _ (q - 2) _ _ H _ n154 ((r3.below hS).more hS.size) (by omega)).mono ?_; rintro e wx ⟨rfl, hbx⟩; replace hS := hS.trans (hbx.mono hS.size); (try replace h135 := (h135.below hbx).more hbx.size); (try replace h150 := (h150.below hbx).more hbx.size); (try replace h153 := (h153.below hbx).more hbx.size); (try replace n136 := (n136.below hbx).more hbx.size); (try replace n151 := (n151.below hbx).more hbx.size); (try replace n154 := (n154.below hbx).more hbx.size); clear hbx; try go_wp2_with fail
            refine hK.out _ _ ?_ (fun hHeld => ?_)
            · (try dsimp only); first | done | (exact hS)
            clear hK K
            try simp only [Act.put, List.getElem_toArray, List.getElem_cons_succ, List.getElem_cons_zero, List.setIfInBounds_toArray, List.set_cons_zero, List.set_cons_succ]
            first
              | (refine wpAnyH_take (i := 25) (v := ?_) rfl (by kernel_rfl) (by kernel_rfl) (by kernel_rfl) (fun _ _ _ h => h) (Or.inl ⟨by rfl, ?_⟩) hHeld ?_; rotate_left; (intro wq hSw; (try dsimp only at hSw); go_simp; done))
              | (refine wpAnyH_take (i := 25) (v := ?_) rfl (by kernel_rfl) (by kernel_rfl) (by kernel_rfl) (fun _ _ _ h => h) (Or.inl ⟨by rfl, ?_⟩) hHeld ?_; rotate_left; (intro wq hSw; (try dsimp only at hSw); go_simp; with_reducible rfl))
              | refine wpAnyH_take (i := 25) (v := undef) rfl (by kernel_rfl) (by kernel_rfl) (by kernel_rfl) (fun _ _ _ h => h) (Or.inr ⟨by rfl, rfl⟩) hHeld ?_
            try simp only [Act.put, List.getElem_toArray, List.getElem_cons_succ, List.getElem_cons_zero, List.setIfInBounds_toArray, List.set_cons_zero, List.set_cons_succ]
            first
              | (refine wpAnyH_take (i := 26) (v := ?_) rfl (by kernel_rfl) (by kernel_rfl) (by kernel_rfl) (fun _ _ _ h => h) (Or.inl ⟨by rfl, ?_⟩) hHeld ?_; rotate_left; (intro wq hSw; (try dsimp only at hSw); go_simp; done))
              | (refine wpAnyH_take (i := 26) (v := ?_) rfl (by kernel_rfl) (by kernel_rfl) (by kernel_rfl) (fun _ _ _ h => h) (Or.inl ⟨by rfl, ?_⟩) hHeld ?_; rotate_left; (intro wq hSw; (try dsimp only at hSw); go_simp; with_reducible rfl))
              | refine wpAnyH_take (i := 26) (v := undef) rfl (by kernel_rfl) (by kernel_rfl) (by kernel_rfl) (fun _ _ _ h => h) (Or.inr ⟨by rfl, rfl⟩) hHeld ?_
            try simp only [Act.put, List.getElem_toArray, List.getElem_cons_succ, List.getElem_cons_zero, List.setIfInBounds_toArray, List.set_cons_zero, List.set_cons_succ]
            refine wpAnyH_ready (rs := [27]) (by kernel_rfl) (by simp) ?_
            refine AllReadyH.cons rfl (fun K hK => ?_) AllReadyH.nil
            go_simp; go_at_call 9; refine (wakes12_any _).mono ?_; rintro e wx ⟨rfl, hbx⟩; replace hS := hS.trans (hbx.mono hS.size); clear hbx; try go_wp2_with fail
            refine hK.out _ _ ?_ (fun hHeld => ?_)
            · (try dsimp only); first | done | (exact hS)
            clear hK K
            try simp only [Act.put, List.getElem_toArray, List.getElem_cons_succ, List.getElem_cons_zero, List.setIfInBounds_toArray, List.set_cons_zero, List.set_cons_succ]
            first
              | (refine wpAnyH_take (i := 28) (v := ?_) rfl (by kernel_rfl) (by kernel_rfl) (by kernel_rfl) (fun _ _ _ h => h) (Or.inl ⟨by rfl, ?_⟩) hHeld ?_; rotate_left; (intro wq hSw; (try dsimp only at hSw); go_simp; done))
              | (refine wpAnyH_take (i := 28) (v := ?_) rfl (by kernel_rfl) (by kernel_rfl) (by kernel_rfl) (fun _ _ _ h => h) (Or.inl ⟨by rfl, ?_⟩) hHeld ?_; rotate_left; (intro wq hSw; (try dsimp only at hSw); go_simp; with_reducible rfl))
              | refine wpAnyH_take (i := 28) (v := undef) rfl (by kernel_rfl) (by kernel_rfl) (by kernel_rfl) (fun _ _ _ h => h) (Or.inr ⟨by rfl, rfl⟩) hHeld ?_
            try simp only [Act.put, List.getElem_toArray, List.getElem_cons_succ, List.getElem_cons_zero, List.setIfInBounds_toArray, List.set_cons_zero, List.set_cons_succ]
            first
              | (refine wpAnyH_take (i := 29) (v := ?_) rfl (by kernel_rfl) (by kernel_rfl) (by kernel_rfl) (fun _ _ _ h => h) (Or.inl ⟨by rfl, ?_⟩) hHeld ?_; rotate_left; (intro wq hSw; (try dsimp only at hSw); go_simp; done))
              | (refine wpAnyH_take (i := 29) (v := ?_) rfl (by kernel_rfl) (by kernel_rfl) (by kernel_rfl) (fun _ _ _ h => h) (Or.inl ⟨by rfl, ?_⟩) hHeld ?_; rotate_left; (intro wq hSw; (try dsimp only at hSw); go_simp; with_reducible rfl))
              | refine wpAnyH_take (i := 29) (v := undef) rfl (by kernel_rfl) (by kernel_rfl) (by kernel_rfl) (fun _ _ _ h => h) (Or.inr ⟨by rfl, rfl⟩) hHeld ?_
            try simp only [Act.put, List.getElem_toArray, List.getElem_cons_succ, List.getElem_cons_zero, List.setIfInBounds_toArray, List.set_cons_zero, List.set_cons_succ]
            refine wpAnyH_done (by kernel_rfl) ?_ _
            (go_wp2_with fail; go_ret; exact ⟨rfl, hb.trans (hS.mono hb.size)⟩)
          refine AllReadyH.cons rfl (fun K hK => ?_) AllReadyH.nil
          refine step_buildAdG (by rfl) (.tmp 152) (by rfl) b (by rfl) ?_; intro B153 wx h153 hbx; replace hS := hS.trans (hbx.mono hS.size); (try replace h135 := (h135.below hbx).more hbx.size); (try replace h150 := (h150.below hbx).more hbx.size); (try replace n136 := (n136.below hbx).more hbx.size); (try replace n151 := (n151.below hbx).more hbx.size); (try replace n154 := (n154.below hbx).more hbx.size); clear hbx
          refine hK.out _ _ ?_ (fun hHeld => ?_)
          · (try dsimp only); first | done | (exact hS)
          clear hK K
          try simp only [Act.put, List.getElem_toArray, List.getElem_cons_succ, List.getElem_cons_zero, List.setIfInBounds_toArray, List.set_cons_zero, List.set_cons_succ]
          refine wpAnyH_ready (rs := [19]) (by kernel_rfl) (by simp) ?_
          refine AllReadyH.cons rfl (fun K hK => ?_) AllReadyH.nil
          go_simp; go_at_call 13; refine (Heal_at _ _ _ l _ 1 1 [a] _ ((hl.below hS).more hS.size) (by omega) h150 (by omega) (healL l [a]) _ rfl rfl).mono ?_; rintro e wx ⟨A151, c151, rfl, n151, hbx⟩; replace hS := hS.trans (hbx.mono hS.size); (try replace h135 := (h135.below hbx).more hbx.size); (try replace h150 := (h150.below hbx).more hbx.size); (try replace h153 := (h153.below hbx).more hbx.size); (try replace n136 := (n136.below hbx).more hbx.size); (try replace n154 := (n154.below hbx).more hbx.size); clear hbx; try go_wp2_with fail
          refine hK.out _ _ ?_ (fun hHeld => ?_)
          · (try dsimp only); first | done | (exact hS)
          clear hK K
          try simp only [Act.put, List.getElem_toArray, List.getElem_cons_succ, List.getElem_cons_zero, List.setIfInBounds_toArray, List.set_cons_zero, List.set_cons_succ]
          refine wpAnyH_ready (rs := [22]) (by kernel_rfl) (by simp) ?_
          refine AllReadyH.cons rfl (fun K hK => ?_) AllReadyH.nil
          go_simp; go_at_call 13; refine (Heal_at _ _ _ (healL l [a]) _ 1 1 [b] _ n151 (Nat.le_trans HHA.out (by omega)) h153 (by omega) H (q - 2) HT.out HHL.out).mono ?_; rintro e wx ⟨A154, c154, rfl, n154, hbx⟩; replace hS := hS.trans (hbx.mono hS.size); (try replace h135 := (h135.below hbx).more hbx.size); (try replace h150 := (h150.below hbx).more hbx.size); (try replace h153 := (h153.below hbx).more hbx.size); (try replace n136 := (n136.below hbx).more hbx.size); (try replace n151 := (n151.below hbx).more hbx.size); clear hbx; try go_wp2_with fail
          refine hK.out _ _ ?_ (fun hHeld => ?_)
          · (try dsimp only); first | done | (exact hS)
          clear hK K
          try simp only [Act.put, List.getElem_toArray, List.getElem_cons_succ, List.getElem_cons_zero, List.setIfInBounds_toArray, List.set_cons_zero, List.set_cons_succ]
          refine wpAnyH_ready (rs := [24]) (by kernel_rfl) (by simp) ?_
          refine AllReadyH.cons rfl (fun K hK => ?_) AllReadyH.nil
          go_simp; go_at_call 22; refine (SameSc_same _ _ (q - 2) _ _ H _ n154 ((r3.below hS).more hS.size) (by omega)).mono ?_; rintro e wx ⟨rfl, hbx⟩; replace hS := hS.trans (hbx.mono hS.size); (try replace h135 := (h135.below hbx).more hbx.size); (try replace h150 := (h150.below hbx).more hbx.size); (try replace h153 := (h153.below hbx).more hbx.size); (try replace n136 := (n136.below hbx).more hbx.size); (try replace n151 := (n151.below hbx).more hbx.size); (try replace n154 := (n154.below hbx).more hbx.size); clear hbx; try go_wp2_with fail
          refine hK.out _ _ ?_ (fun hHeld => ?_)
          · (try dsimp only); first | done | (exact hS)
          clear hK K
          try simp only [Act.put, List.getElem_toArray, List.getElem_cons_succ, List.getElem_cons_zero, List.setIfInBounds_toArray, List.set_cons_zero, List.set_cons_succ]
          first
            | (refine wpAnyH_take (i := 25) (v := ?_) rfl (by kernel_rfl) (by kernel_rfl) (by kernel_rfl) (fun _ _ _ h => h) (Or.inl ⟨by rfl, ?_⟩) hHeld ?_; rotate_left; (intro wq hSw; (try dsimp only at hSw); go_simp; done))
            | (refine wpAnyH_take (i := 25) (v := ?_) rfl (by kernel_rfl) (by kernel_rfl) (by kernel_rfl) (fun _ _ _ h => h) (Or.inl ⟨by rfl, ?_⟩) hHeld ?_; rotate_left; (intro wq hSw; (try dsimp only at hSw); go_simp; with_reducible rfl))
            | refine wpAnyH_take (i := 25) (v := undef) rfl (by kernel_rfl) (by kernel_rfl) (by kernel_rfl) (fun _ _ _ h => h) (Or.inr ⟨by rfl, rfl⟩) hHeld ?_
          try simp only [Act.put, List.getElem_toArray, List.getElem_cons_succ, List.getElem_cons_zero, List.setIfInBounds_toArray, List.set_cons_zero, List.set_cons_succ]
          first
            | (refine wpAnyH_take (i := 26) (v := ?_) rfl (by kernel_rfl) (by kernel_rfl) (by kernel_rfl) (fun _ _ _ h => h) (Or.inl ⟨by rfl, ?_⟩) hHeld ?_; rotate_left; (intro wq hSw; (try dsimp only at hSw); go_simp; done))
            | (refine wpAnyH_take (i := 26) (v := ?_) rfl (by kernel_rfl) (by kernel_rfl) (by kernel_rfl) (fun _ _ _ h => h) (Or.inl ⟨by rfl, ?_⟩) hHeld ?_; rotate_left; (intro wq hSw; (try dsimp only at hSw); go_simp; with_reducible rfl))
            | refine wpAnyH_take (i := 26) (v := undef) rfl (by kernel_rfl) (by kernel_rfl) (by kernel_rfl) (fun _ _ _ h => h) (Or.inr ⟨by rfl, rfl⟩) hHeld ?_
          try simp only [Act.put, List.getElem_toArray, List.getElem_cons_succ, List.getElem_cons_zero, List.setIfInBounds_toArray, List.set_cons_zero, List.set_cons_succ]
          refine wpAnyH_ready (rs := [27]) (by kernel_rfl) (by simp) ?_
          refine AllReadyH.cons rfl (fun K hK => ?_) AllReadyH.nil
          go_simp; go_at_call 9; refine (wakes12_any _).mono ?_; rintro e wx ⟨rfl, hbx⟩; replace hS := hS.trans (hbx.mono hS.size); clear hbx; try go_wp2_with fail
          refine hK.out _ _ ?_ (fun hHeld => ?_)
          · (try dsimp only); first | done | (exact hS)
          clear hK K
          try simp only [Act.put, List.getElem_toArray, List.getElem_cons_succ, List.getElem_cons_zero, List.setIfInBounds_toArray, List.set_cons_zero, List.set_cons_succ]
          first
            | (refine wpAnyH_take (i := 28) (v := ?_) rfl (by kernel_rfl) (by kernel_rfl) (by kernel_rfl) (fun _ _ _ h => h) (Or.inl ⟨by rfl, ?_⟩) hHeld ?_; rotate_left; (intro wq hSw; (try dsimp only at hSw); go_simp; done))
            | (refine wpAnyH_take (i := 28) (v := ?_) rfl (by kernel_rfl) (by kernel_rfl) (by kernel_rfl) (fun _ _ _ h => h) (Or.inl ⟨by rfl, ?_⟩) hHeld ?_; rotate_left; (intro wq hSw; (try dsimp only at hSw); go_simp; with_reducible rfl))
            | refine wpAnyH_take (i := 28) (v := undef) rfl (by kernel_rfl) (by kernel_rfl) (by kernel_rfl) (fun _ _ _ h => h) (Or.inr ⟨by rfl, rfl⟩) hHeld ?_
          try simp only [Act.put, List.getElem_toArray, List.getElem_cons_succ, List.getElem_cons_zero, List.setIfInBounds_toArray, List.set_cons_zero, List.set_cons_succ]
          first
            | (refine wpAnyH_take (i := 29) (v := ?_) rfl (by kernel_rfl) (by kernel_rfl) (by kernel_rfl) (fun _ _ _ h => h) (Or.inl ⟨by rfl, ?_⟩) hHeld ?_; rotate_left; (intro wq hSw; (try dsimp only at hSw); go_simp; done))
            | (refine wpAnyH_take (i := 29) (v := ?_) rfl (by kernel_rfl) (by kernel_rfl) (by kernel_rfl) (fun _ _ _ h => h) (Or.inl ⟨by rfl, ?_⟩) hHeld ?_; rotate_left; (intro wq hSw; (try dsimp only at hSw); go_simp; with_reducible rfl))
            | refine wpAnyH_take (i := 29) (v := undef) rfl (by kernel_rfl) (by kernel_rfl) (by kernel_rfl) (fun _ _ _ h => h) (Or.inr ⟨by rfl, rfl⟩) hHeld ?_
          try simp only [Act.put, List.getElem_toArray, List.getElem_cons_succ, List.getElem_cons_zero, List.setIfInBounds_toArray, List.set_cons_zero, List.set_cons_succ]
          refine wpAnyH_done (by kernel_rfl) ?_ _
          (go_wp2_with fail; go_ret; exact ⟨rfl, hb.trans (hS.mono hb.size)⟩)
        refine AllReadyH.cons rfl (fun K hK => ?_) AllReadyH.nil
        refine step_buildAdG (by rfl) (.tmp 152) (by rfl) b (by rfl) ?_; intro B153 wx h153 hbx; replace hS := hS.trans (hbx.mono hS.size); (try replace h135 := (h135.below hbx).more hbx.size); (try replace h150 := (h150.below hbx).more hbx.size); (try replace n136 := (n136.below hbx).more hbx.size); (try replace n151 := (n151.below hbx).more hbx.size); (try replace n154 := (n154.below hbx).more hbx.size); clear hbx
        refine hK.out _ _ ?_ (fun hHeld => ?_)
        · (try dsimp only); first | done | (exact hS)
        clear hK K
        try simp only [Act.put, List.getElem_toArray, List.getElem_cons_succ, List.getElem_cons_zero, List.setIfInBounds_toArray, List.set_cons_zero, List.set_cons_succ]
        refine wpAnyH_ready (rs := [18]) (by kernel_rfl) (by simp) ?_
        refine AllReadyH.cons rfl (fun K hK => ?_) AllReadyH.nil
        refine step_buildAdG (by rfl) (.tmp 149) (by rfl) a (by rfl) ?_; intro B150 wx h150 hbx; replace hS := hS.trans (hbx.mono hS.size); (try replace h135 := (h135.below hbx).more hbx.size); (try replace h153 := (h153.below hbx).more hbx.size); (try replace n136 := (n136.below hbx).more hbx.size); (try replace n151 := (n151.below hbx).more hbx.size); (try replace n154 := (n154.below hbx).more hbx.size); clear hbx
        refine hK.out _ _ ?_ (fun hHeld => ?_)
        · (try dsimp only); first | done | (exact hS)
        clear hK K
        try simp only [Act.put, List.getElem_toArray, List.getElem_cons_succ, List.getElem_cons_zero, List.setIfInBounds_toArray, List.set_cons_zero, List.set_cons_succ]
        refine wpAnyH_ready (rs := [19]) (by kernel_rfl) (by simp) ?_
        refine AllReadyH.cons rfl (fun K hK => ?_) AllReadyH.nil
        go_simp; go_at_call 13; refine (Heal_at _ _ _ l _ 1 1 [a] _ ((hl.below hS).more hS.size) (by omega) h150 (by omega) (healL l [a]) _ rfl rfl).mono ?_; rintro e wx ⟨A151, c151, rfl, n151, hbx⟩; replace hS := hS.trans (hbx.mono hS.size); (try replace h135 := (h135.below hbx).more hbx.size); (try replace h150 := (h150.below hbx).more hbx.size); (try replace h153 := (h153.below hbx).more hbx.size); (try replace n136 := (n136.below hbx).more hbx.size); (try replace n154 := (n154.below hbx).more hbx.size); clear hbx; try go_wp2_with fail
        refine hK.out _ _ ?_ (fun hHeld => ?_)
        · (try dsimp only); first | done | (exact hS)
        clear hK K
        try simp only [Act.put, List.getElem_toArray, List.getElem_cons_succ, List.getElem_cons_zero, List.setIfInBounds_toArray, List.set_cons_zero, List.set_cons_succ]
        refine wpAnyH_ready (rs := [22]) (by kernel_rfl) (by simp) ?_
        refine AllReadyH.cons rfl (fun K hK => ?_) AllReadyH.nil
        go_simp; go_at_call 13; refine (Heal_at _ _ _ (healL l [a]) _ 1 1 [b] _ n151 (Nat.le_trans HHA.out (by omega)) h153 (by omega) H (q - 2) HT.out HHL.out).mono ?_; rintro e wx ⟨A154, c154, rfl, n154, hbx⟩; replace hS := hS.trans (hbx.mono hS.size); (try replace h135 := (h135.below hbx).more hbx.size); (try replace h150 := (h150.below hbx).more hbx.size); (try replace h153 := (h153.below hbx).more hbx.size); (try replace n136 := (n136.below hbx).more hbx.size); (try replace n151 := (n151.below hbx).more hbx.size); clear hbx; try go_wp2_with fail
        refine hK.out _ _ ?_ (fun hHeld => ?_)
        · (try dsimp only); first | done | (exact hS)
        clear hK K
        try simp only [Act.put, List.getElem_toArray, List.getElem_cons_succ, List.getElem_cons_zero, List.setIfInBounds_toArray, List.set_cons_zero, List.set_cons_succ]
        refine wpAnyH_ready (rs := [24]) (by kernel_rfl) (by simp) ?_
        refine AllReadyH.cons rfl (fun K hK => ?_) AllReadyH.nil
        go_simp; go_at_call 22; refine (SameSc_same _ _ (q - 2) _ _ H _ n154 ((r3.below hS).more hS.size) (by omega)).mono ?_; rintro e wx ⟨rfl, hbx⟩; replace hS := hS.trans (hbx.mono hS.size); (try replace h135 := (h135.below hbx).more hbx.size); (try replace h150 := (h150.below hbx).more hbx.size); (try replace h153 := (h153.below hbx).more hbx.size); (try replace n136 := (n136.below hbx).more hbx.size); (try replace n151 := (n151.below hbx).more hbx.size); (try replace n154 := (n154.below hbx).more hbx.size); clear hbx; try go_wp2_with fail
        refine hK.out _ _ ?_ (fun hHeld => ?_)
        · (try dsimp only); first | done | (exact hS)
        clear hK K
        try simp only [Act.put, List.getElem_toArray, List.getElem_cons_succ, List.getElem_cons_zero, List.setIfInBounds_toArray, List.set_cons_zero, List.set_cons_succ]
        first
          | (refine wpAnyH_take (i := 25) (v := ?_) rfl (by kernel_rfl) (by kernel_rfl) (by kernel_rfl) (fun _ _ _ h => h) (Or.inl ⟨by rfl, ?_⟩) hHeld ?_; rotate_left; (intro wq hSw; (try dsimp only at hSw); go_simp; done))
          | (refine wpAnyH_take (i := 25) (v := ?_) rfl (by kernel_rfl) (by kernel_rfl) (by kernel_rfl) (fun _ _ _ h => h) (Or.inl ⟨by rfl, ?_⟩) hHeld ?_; rotate_left; (intro wq hSw; (try dsimp only at hSw); go_simp; with_reducible rfl))
          | refine wpAnyH_take (i := 25) (v := undef) rfl (by kernel_rfl) (by kernel_rfl) (by kernel_rfl) (fun _ _ _ h => h) (Or.inr ⟨by rfl, rfl⟩) hHeld ?_
        try simp only [Act.put, List.getElem_toArray, List.getElem_cons_succ, List.getElem_cons_zero, List.setIfInBounds_toArray, List.set_cons_zero, List.set_cons_succ]
        first
          | (refine wpAnyH_take (i := 26) (v := ?_) rfl (by kernel_rfl) (by kernel_rfl) (by kernel_rfl) (fun _ _ _ h => h) (Or.inl ⟨by rfl, ?_⟩) hHeld ?_; rotate_left; (intro wq hSw; (try dsimp only at hSw); go_simp; done))
          | (refine wpAnyH_take (i := 26) (v := ?_) rfl (by kernel_rfl) (by kernel_rfl) (by kernel_rfl) (fun _ _ _ h => h) (Or.inl ⟨by rfl, ?_⟩) hHeld ?_; rotate_left; (intro wq hSw; (try dsimp only at hSw); go_simp; with_reducible rfl))
          | refine wpAnyH_take (i := 26) (v := undef) rfl (by kernel_rfl) (by kernel_rfl) (by kernel_rfl) (fun _ _ _ h => h) (Or.inr ⟨by rfl, rfl⟩) hHeld ?_
        try simp only [Act.put, List.getElem_toArray, List.getElem_cons_succ, List.getElem_cons_zero, List.setIfInBounds_toArray, List.set_cons_zero, List.set_cons_succ]
        refine wpAnyH_ready (rs := [27]) (by kernel_rfl) (by simp) ?_
        refine AllReadyH.cons rfl (fun K hK => ?_) AllReadyH.nil
        go_simp; go_at_call 9; refine (wakes12_any _).mono ?_; rintro e wx ⟨rfl, hbx⟩; replace hS := hS.trans (hbx.mono hS.size); clear hbx; try go_wp2_with fail
        refine hK.out _ _ ?_ (fun hHeld => ?_)
        · (try dsimp only); first | done | (exact hS)
        clear hK K
        try simp only [Act.put, List.getElem_toArray, List.getElem_cons_succ, List.getElem_cons_zero, List.setIfInBounds_toArray, List.set_cons_zero, List.set_cons_succ]
        first
          | (refine wpAnyH_take (i := 28) (v := ?_) rfl (by kernel_rfl) (by kernel_rfl) (by kernel_rfl) (fun _ _ _ h => h) (Or.inl ⟨by rfl, ?_⟩) hHeld ?_; rotate_left; (intro wq hSw; (try dsimp only at hSw); go_simp; done))
          | (refine wpAnyH_take (i := 28) (v := ?_) rfl (by kernel_rfl) (by kernel_rfl) (by kernel_rfl) (fun _ _ _ h => h) (Or.inl ⟨by rfl, ?_⟩) hHeld ?_; rotate_left; (intro wq hSw; (try dsimp only at hSw); go_simp; with_reducible rfl))
          | refine wpAnyH_take (i := 28) (v := undef) rfl (by kernel_rfl) (by kernel_rfl) (by kernel_rfl) (fun _ _ _ h => h) (Or.inr ⟨by rfl, rfl⟩) hHeld ?_
        try simp only [Act.put, List.getElem_toArray, List.getElem_cons_succ, List.getElem_cons_zero, List.setIfInBounds_toArray, List.set_cons_zero, List.set_cons_succ]
        first
          | (refine wpAnyH_take (i := 29) (v := ?_) rfl (by kernel_rfl) (by kernel_rfl) (by kernel_rfl) (fun _ _ _ h => h) (Or.inl ⟨by rfl, ?_⟩) hHeld ?_; rotate_left; (intro wq hSw; (try dsimp only at hSw); go_simp; done))
          | (refine wpAnyH_take (i := 29) (v := ?_) rfl (by kernel_rfl) (by kernel_rfl) (by kernel_rfl) (fun _ _ _ h => h) (Or.inl ⟨by rfl, ?_⟩) hHeld ?_; rotate_left; (intro wq hSw; (try dsimp only at hSw); go_simp; with_reducible rfl))
          | refine wpAnyH_take (i := 29) (v := undef) rfl (by kernel_rfl) (by kernel_rfl) (by kernel_rfl) (fun _ _ _ h => h) (Or.inr ⟨by rfl, rfl⟩) hHeld ?_
        try simp only [Act.put, List.getElem_toArray, List.getElem_cons_succ, List.getElem_cons_zero, List.setIfInBounds_toArray, List.set_cons_zero, List.set_cons_succ]
        refine wpAnyH_done (by kernel_rfl) ?_ _
        (go_wp2_with fail; go_ret; exact ⟨rfl, hb.trans (hS.mono hb.size)⟩)

set_option maxRecDepth 100000 in
set_option maxHeartbeats 2000000 in
theorem ScarSwaps_walk (A : Option Addr) (n c : Nat) (l : List Sc) (a b : Ad) (now : Int) (w : World)
    (hl : Scs w w.heap.size A n l) (hn : n ≤ 9223372036854775807) (_ho : ∀ x ∈ l, okSc x) (_hc : n ≤ c) :
    Calls Try.prog 7 #[.slice A n c, .agg #[.int .i8 a.1, .int .u16 a.2.1, .int .u16 a.2.2.1, .int .u16 a.2.2.2.1, .int .u16 a.2.2.2.2.1, .int .u16 a.2.2.2.2.2.1, .int .u16 a.2.2.2.2.2.2.1, .int .u16 a.2.2.2.2.2.2.2.1, .int .u16 a.2.2.2.2.2.2.2.2.1, .int .i64 a.2.2.2.2.2.2.2.2.2], .agg #[.int .i8 b.1, .int .u16 b.2.1, .int .u16 b.2.2.1, .int .u16 b.2.2.2.1, .int .u16 b.2.2.2.2.1, .int .u16 b.2.2.2.2.2.1, .int .u16 b.2.2.2.2.2.2.1, .int .u16 b.2.2.2.2.2.2.2.1, .int .u16 b.2.2.2.2.2.2.2.2.1, .int .i64 b.2.2.2.2.2.2.2.2.2], .int .i64 now] w fun e w' => e = .returned (.bool true) ∧ Below w.heap.size w w' := by
  by_cases hn3 : n ≤ 30
  · by_cases hab : a = b
    · subst hab
      have d1 : decide ((30 : Int) < (n : Int)) = false := by simp; omega
      have d2 : decide (30 < n) = false := by simp; omega
      have hE := fun wx => eqAd a a wx
      rw [decide_eq_true rfl] at hE
      unfold valAd at hE
      have F := And.intro (And.intro ((Below.heap_alloc (w.alloc (.cells #[.int .i8 a.1, .int .u16 a.2.1, .int .u16 a.2.2.1, .int .u16 a.2.2.2.1, .int .u16 a.2.2.2.2.1, .int .u16 a.2.2.2.2.2.1, .int .u16 a.2.2.2.2.2.2.1, .int .u16 a.2.2.2.2.2.2.2.1, .int .u16 a.2.2.2.2.2.2.2.2.1, .int .i64 a.2.2.2.2.2.2.2.2.2] 31)) (.cells #[.int .i8 a.1, .int .u16 a.2.1, .int .u16 a.2.2.1, .int .u16 a.2.2.2.1, .int .u16 a.2.2.2.2.1, .int .u16 a.2.2.2.2.2.1, .int .u16 a.2.2.2.2.2.2.1, .int .u16 a.2.2.2.2.2.2.2.1, .int .u16 a.2.2.2.2.2.2.2.2.1, .int .i64 a.2.2.2.2.2.2.2.2.2] 31) w.heap.size (by simp)).trans (heap_alloc_new w (.cells #[.int .i8 a.1, .int .u16 a.2.1, .int .u16 a.2.2.1, .int .u16 a.2.2.2.1, .int .u16 a.2.2.2.2.1, .int .u16 a.2.2.2.2.2.1, .int .u16 a.2.2.2.2.2.2.1, .int .u16 a.2.2.2.2.2.2.2.1, .int .u16 a.2.2.2.2.2.2.2.2.1, .int .i64 a.2.2.2.2.2.2.2.2.2] 31))) (show ((w.alloc (.cells #[.int .i8 a.1, .int .u16 a.2.1, .int .u16 a.2.2.1, .int .u16 a.2.2.2.1, .int .u16 a.2.2.2.2.1, .int .u16 a.2.2.2.2.2.1, .int .u16 a.2.2.2.2.2.2.1, .int .u16 a.2.2.2.2.2.2.2.1, .int .u16 a.2.2.2.2.2.2.2.2.1, .int .i64 a.2.2.2.2.2.2.2.2.2] 31)).alloc (.cells #[.int .i8 a.1, .int .u16 a.2.1, .int .u16 a.2.2.1, .int .u16 a.2.2.2.1, .int .u16 a.2.2.2.2.1, .int .u16 a.2.2.2.2.2.1, .int .u16 a.2.2.2.2.2.2.1, .int .u16 a.2.2.2.2.2.2.2.1, .int .u16 a.2.2.2.2.2.2.2.2.1, .int .i64 a.2.2.2.2.2.2.2.2.2] 31)).heap[w.heap.size + 1]? = some (.cells #[.int .i8 a.1, .int .u16 a.2.1, .int .u16 a.2.2.1, .int .u16 a.2.2.2.1, .int .u16 a.2.2.2.2.1, .int .u16 a.2.2.2.2.2.1, .int .u16 a.2.2.2.2.2.2.1, .int .u16 a.2.2.2.2.2.2.2.1, .int .u16 a.2.2.2.2.2.2.2.2.1, .int .i64 a.2.2.2.2.2.2.2.2.2] 31 (0, 0)) by
        have := heap_alloc_new (w.alloc (.cells #[.int .i8 a.1, .int .u16 a.2.1, .int .u16 a.2.2.1, .int .u16 a.2.2.2.1, .int .u16 a.2.2.2.2.1, .int .u16 a.2.2.2.2.2.1, .int .u16 a.2.2.2.2.2.2.1, .int .u16 a.2.2.2.2.2.2.2.1, .int .u16 a.2.2.2.2.2.2.2.2.1, .int .i64 a.2.2.2.2.2.2.2.2.2] 31)) (.cells #[.int .i8 a.1, .int .u16 a.2.1, .int .u16 a.2.2.1, .int .u16 a.2.2.2.1, .int .u16 a.2.2.2.2.1, .int .u16 a.2.2.2.2.2.1, .int .u16 a.2.2.2.2.2.2.1, .int .u16 a.2.2.2.2.2.2.2.1, .int .u16 a.2.2.2.2.2.2.2.2.1, .int .i64 a.2.2.2.2.2.2.2.2.2] 31)
        rw [show (w.alloc (.cells #[.int .i8 a.1, .int .u16 a.2.1, .int .u16 a.2.2.1, .int .u16 a.2.2.2.1, .int .u16 a.2.2.2.2.1, .int .u16 a.2.2.2.2.2.1, .int .u16 a.2.2.2.2.2.2.1, .int .u16 a.2.2.2.2.2.2.2.1, .int .u16 a.2.2.2.2.2.2.2.2.1, .int .i64 a.2.2.2.2.2.2.2.2.2] 31)).heap.size = w.heap.size + 1 by simp] at this
        exact this)) ((Below.new_ w (.cells #[.int .i8 a.1, .int .u16 a.2.1, .int .u16 a.2.2.1, .int .u16 a.2.2.2.1, .int .u16 a.2.2.2.2.1, .int .u16 a.2.2.2.2.2.1, .int .u16 a.2.2.2.2.2.2.1, .int .u16 a.2.2.2.2.2.2.2.1, .int .u16 a.2.2.2.2.2.2.2.2.1, .int .i64 a.2.2.2.2.2.2.2.2.2] 31)).alloc (B := w.heap.size) (by simp) (.cells #[.int .i8 a.1, .int .u16 a.2.1, .int .u16 a.2.2.1, .int .u16 a.2.2.2.1, .int .u16 a.2.2.2.2.1, .int .u16 a.2.2.2.2.2.1, .int .u16 a.2.2.2.2.2.2.1, .int .u16 a.2.2.2.2.2.2.2.1, .int .u16 a.2.2.2.2.2.2.2.2.1, .int .i64 a.2.2.2.2.2.2.2.2.2] 31))
      go_enter Try.func7, Try.ntmps7
      go_upto_region 1 with fail
      generalize ((w.alloc (.cells #[.int .i8 a.1, .int .u16 a.2.1, .int .u16 a.2.2.1, .int .u16 a.2.2.2.1, .int .u16 a.2.2.2.2.1, .int .u16 a.2.2.2.2.2.1, .int .u16 a.2.2.2.2.2.2.1, .int .u16 a.2.2.2.2.2.2.2.1, .int .u16 a.2.2.2.2.2.2.2.2.1, .int .i64 a.2.2.2.2.2.2.2.2.2] 31)).alloc (.cells #[.int .i8 a.1, .int .u16 a.2.1, .int .u16 a.2.2.1, .int .u16 a.2.2.2.1, .int .u16 a.2.2.2.2.1, .int .u16 a.2.2.2.2.2.1, .int .u16 a.2.2.2.2.2.2.1, .int .u16 a.2.2.2.2.2.2.2.1, .int .u16 a.2.2.2.2.2.2.2.2.1, .int .i64 a.2.2.2.2.2.2.2.2.2] 31)) = W at *
      obtain ⟨⟨hA, hB⟩, hb⟩ := F
      obtain ⟨z0, z1, z2, z3, z4, z5, z6, z7, z8, z9⟩ := ad_cells hA
      obtain ⟨y0, y1, y2, y3, y4, y5, y6, y7, y8, y9⟩ := ad_cells hB
      go_wp2_with fail
      refine (wakes12_any _).mono ?_
      rintro e w4 ⟨rfl, hb4⟩
      replace hb := hb.trans (hb4.mono hb.size)
      go_wp2_with fail
      go_ret
      exact ⟨rfl, hb⟩
    · exact ScarSwaps_in A n c l a b now w hl hn3 hab
  · have d1 : decide ((30 : Int) < (n : Int)) = true := by simp; omega
    have d2 : decide (30 < n) = true := by simp; omega
    have hb := (Below.new_ w (.cells #[.int .i8 a.1, .int .u16 a.2.1, .int .u16 a.2.2.1, .int .u16 a.2.2.2.1, .int .u16 a.2.2.2.2.1, .int .u16 a.2.2.2.2.2.1, .int .u16 a.2.2.2.2.2.2.1, .int .u16 a.2.2.2.2.2.2.2.1, .int .u16 a.2.2.2.2.2.2.2.2.1, .int .i64 a.2.2.2.2.2.2.2.2.2] 31)).alloc (B := w.heap.size) (by simp) (.cells #[.int .i8 b.1, .int .u16 b.2.1, .int .u16 b.2.2.1, .int .u16 b.2.2.2.1, .int .u16 b.2.2.2.2.1, .int .u16 b.2.2.2.2.2.1, .int .u16 b.2.2.2.2.2.2.1, .int .u16 b.2.2.2.2.2.2.2.1, .int .u16 b.2.2.2.2.2.2.2.2.1, .int .i64 b.2.2.2.2.2.2.2.2.2] 31)
    go_enter Try.func7, Try.ntmps7
    go_upto_region 1 with fail
    generalize ((w.alloc (.cells #[.int .i8 a.1, .int .u16 a.2.1, .int .u16 a.2.2.1, .int .u16 a.2.2.2.1, .int .u16 a.2.2.2.2.1, .int .u16 a.2.2.2.2.2.1, .int .u16 a.2.2.2.2.2.2.1, .int .u16 a.2.2.2.2.2.2.2.1, .int .u16 a.2.2.2.2.2.2.2.2.1, .int .i64 a.2.2.2.2.2.2.2.2.2] 31)).alloc (.cells #[.int .i8 b.1, .int .u16 b.2.1, .int .u16 b.2.2.1, .int .u16 b.2.2.2.1, .int .u16 b.2.2.2.2.1, .int .u16 b.2.2.2.2.2.1, .int .u16 b.2.2.2.2.2.2.1, .int .u16 b.2.2.2.2.2.2.2.1, .int .u16 b.2.2.2.2.2.2.2.2.1, .int .i64 b.2.2.2.2.2.2.2.2.2] 31)) = W at *
    go_wp2_with fail
    refine (wakes12_any _).mono ?_
    rintro e w4 ⟨rfl, hb4⟩
    replace hb := hb.trans (hb4.mono hb.size)
    go_wp2_with fail
    go_ret
    exact ⟨rfl, hb⟩
end Go.Proofs.Ytgpijomnnnjgkaa
