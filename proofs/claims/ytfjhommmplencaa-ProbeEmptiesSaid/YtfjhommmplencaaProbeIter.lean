/-
  slices.Backward at rows of idle ones: its contract as an iterator. Conditions: the slice reads as a list of at most 1000.
-/
import Derived.RangeFuncNested
import Derived.RangeFuncBound
import Derived.RangeFuncCalls
import Derived.RangeFuncLeaves
import Derived.Shelf.Abstract
import Derived.Shelf.RegionOpen
import Derived.WalkKit
import Derived.OwnWalkIn
import Derived.TacticsInMore
import Derived.LoopNIn
import Derived.LoopIn
import Derived.Test.YtfjhommmplencaaProbe
namespace Go.Proofs.Ytfjhommmplencaa
open Go.RowKit Go.Shelf
attribute [local go_sem] Oper.semAt_some

/-- A place of a row and who stands there. -/
abbrev Bk (xs : List Re) := { x : Nat × Re // xs[x.1]? = some x.2 }
def encBk {xs : List Re} (x : Bk xs) : Array Value := #[.int .i64 (x.1.1 : Int), .agg #[.int .i64 x.1.2.1, .int .i64 x.1.2.2]]
/-- What has come while the first m are still to come. -/
def Came {xs : List Re} (pre : List (Bk xs)) (m : Nat) : Prop := pre.length + m = xs.length ∧ ∀ j x, pre[j]? = some x → x.1.1 + j + 1 = xs.length
def KpB (n₀ Bs : Nat) (W W' : World) : Prop := Below n₀ W W' ∧ ∀ v, W.cell? ⟨Bs, 0, none⟩ = some v → W'.cell? ⟨Bs, 0, none⟩ = some v
theorem KpB.refl (n₀ Bs : Nat) (W : World) : KpB n₀ Bs W W := ⟨Below.refl _ _, fun _ h => h⟩
theorem KpB.trans {n₀ Bs : Nat} {A B C : World} (h1 : KpB n₀ Bs A B) (h2 : KpB n₀ Bs B C) : KpB n₀ Bs A C := ⟨h1.1.trans h2.1, fun v h => h2.2 v (h1.2 v h)⟩
theorem Came.snoc {xs : List Re} {pre : List (Bk xs)} {m : Nat} (h : Came pre (m + 1)) (x : Bk xs) (hx : x.1.1 = m) : Came (pre ++ [x]) m := by
  obtain ⟨h1, h2⟩ := h
  refine ⟨by simp; omega, fun j y hy => ?_⟩
  rcases Nat.lt_or_ge j pre.length with hj | hj
  · rw [List.getElem?_append_left hj] at hy
    exact h2 j y hy
  · rw [List.getElem?_append_right hj] at hy
    have h3 := (List.getElem?_eq_some_iff.1 hy).1
    simp at h3
    have h4 : j - pre.length = 0 := by omega
    rw [h4] at hy
    simp at hy
    subst hy
    omega

set_option maxRecDepth 100000 in
set_option maxHeartbeats 2000000 in
theorem back1_in (F : Fence) (n : Nat) (hf : F.fn 36) (hro : F.round = none) (hn : 1 ≤ n) (l Bs n₀ : Nat) (A : Option Addr) (len cap : Nat) (xs : List Re) (hlen : len ≤ 1000) (J Jx : List (Bk xs) → World → Prop)
    (hY : ∀ pre x W, J pre W → pre.length < len → YieldAt F (n - 1) Try.prog l (encBk x) W fun e W' =>
      (e = .returned (.bool true) ∧ J (pre ++ [x]) W' ∧ KpB n₀ Bs W W') ∨ (e = .returned (.bool false) ∧ Jx (pre ++ [x]) W'))
    (W : World) (hBs : W.cell? ⟨Bs, 0, none⟩ = some (.slice A len cap)) (hl : Res W n₀ A len xs) (h0 : J [] W) :
    CallsIn F n Try.prog 36 #[.func (.yield l) #[] #[], .pointer (some ⟨Bs, 0, none⟩)] W fun e W' => (∃ v, e = .returned v) ∧
      ((∃ ys, Came ys 0 ∧ J ys W') ∨ (∃ pre, (∃ m, m ≤ len ∧ Came pre m) ∧ Jx pre W')) := by
  have HL := Lib.hid hl.1
  refine callsIn_of_wp Try.func36 rfl hf ?_ hro
  simp only [Try.ntmps36, List.size_toArray, List.length_cons, List.length_nil, Nat.reduceAdd, Nat.reduceSub, Array.replicate_succ, Array.replicate_zero, List.push_toArray, List.append_toArray, List.nil_append, List.cons_append]
  gi_wp2
  gi_loopw [3] (fun i wr => ∃ (m : Nat) (pre : List (Bk xs)), m ≤ len ∧ i = .int .i64 ((m : Int) - 1) ∧ Hid (Came pre m) ∧ J pre wr ∧ KpB n₀ Bs W wr)
    (fun i _ => (intOf i + 1).toNat)
  case atStart => exact ⟨len, [], Nat.le_refl _, rfl, ⟨by simp [HL.out], by simp⟩, h0, KpB.refl _ _ _⟩
  case round =>
    obtain ⟨m, pre, hm, rfl, hcm, hJs, hnx⟩ := hrel
    have hBs2 := hnx.2 _ hBs
    by_cases hlt : 0 < m
    · obtain ⟨b, off, x, rfl, hbb, hx, hc1, hc2⟩ := Res.cells (hl.below hnx.1) (i := m - 1) (by omega)
      have e1 : (((m - 1 : Nat) : Int)) = (m : Int) - 1 := by omega
      have i1 : (1 : Int) ≤ (m : Int) := by omega
      have i2 : (0 : Int) ≤ (m : Int) - 1 := by omega
      have i3 : (m : Int) - 1 < (len : Int) := by omega
      have i5 : ((m : Int) - 1).toNat = m - 1 := by omega
      obtain ⟨fn, tmps, assign, body, hy, hR⟩ := hY pre ⟨(m - 1, x), hx.out⟩ wr hJs (by have := hcm.out.1; rw [HL.out] at this; omega)
      unfold encBk at hy
      dsimp only at hy
      rw [e1] at hy
      clear e1
      gi_wp2
      refine hR.mono ?_
      rintro e W3 (⟨rfl, hJ3, hk3⟩ | ⟨rfl, hJx3⟩)
      · gi_wp2
        go_roundw
        case rel => exact ⟨m - 1, _, by omega, by congr 1; omega, Came.snoc (by have := hcm.out; rwa [show m - 1 + 1 = m by omega]) _ rfl, hJ3, hnx.trans hk3⟩
        case measure => simp [intOf]; omega
      · gi_wp2
        refine bodyPost_ret (results_none rfl _ _ _) rfl ?_
        exact ⟨⟨_, rfl⟩, .inr ⟨_, ⟨m - 1, by omega, Came.snoc (by have := hcm.out; rwa [show m - 1 + 1 = m by omega]) _ rfl⟩, hJx3⟩⟩
    · obtain rfl : m = 0 := by omega
      gi_wp2
      go_end0
      exact ⟨⟨_, rfl⟩, .inl ⟨_, hcm.out, hJs⟩⟩

/-- slices.Backward hands back its closure. -/
theorem Backward_any (A : Option Addr) (n c : Nat) (w : World) :
    Calls Try.prog 23 #[.slice A n c] w fun e w' => e = .returned (.func (.func 36) #[] #[.pointer (some ⟨w.heap.size, 0, none⟩)]) ∧ w' = w.alloc (.cells #[.slice A n c] 22) := by
  go_enter Try.func23, Try.ntmps23
  go_wp2_with fail
  go_ret
  exact ⟨rfl, rfl⟩

theorem back_stops (F : Fence) (n : Nat) (hf : F.fn 36) (hro : F.round = none) (hn : 1 ≤ n) (Bs n₀ : Nat) (A : Option Addr) (len cap : Nat) (xs : List Re) (hlen : len ≤ 1000) (w : World) (hBs : Bs < w.heap.size) (hn₀ : n₀ ≤ w.heap.size)
    (hc : w.cell? ⟨Bs, 0, none⟩ = some (.slice A len cap)) (hl : Res w n₀ A len xs) :
    SeqStopsK F n Try.prog 36 #[.pointer (some ⟨Bs, 0, none⟩)] (encBk (xs := xs)) (KpB n₀ Bs) (fun ys => Came ys 0) (fun pre => ∃ m, m ≤ len ∧ Came pre m) len w := fun l J Jx W hW _ _ hY h0 =>
  back1_in F n hf hro hn l Bs n₀ A len cap xs hlen J Jx hY W ((hW.cell (p := ⟨Bs, 0, none⟩) hBs).trans hc) (hl.below (hW.mono hn₀)) h0
end Go.Proofs.Ytfjhommmplencaa
