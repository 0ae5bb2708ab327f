/-
  What pace.Plan computes, as one contract over the translated program: for every argument. Conditions: none.
-/
import Derived.Test.YtcmgcbkhjdeinaaPace2
import Derived.Test.YtcmgcbkhjdeinaaLaws
namespace Go.Proofs.Ytcmgcbkhjdeinaa
open Go.RowKit

def planL : Nat → Int → Int → List Int
  | 0, _, _ => []
  | m + 1, t, s => t :: planL m (later t [s]) s
def planAt : Nat → Int → Int → Int
  | 0, t, _ => t
  | m + 1, t, s => planAt m (later t [s]) s
theorem planAt_succ : ∀ (m : Nat) (t s : Int), planAt (m + 1) t s = later (planAt m t s) [s]
  | 0, _, _ => rfl
  | m + 1, t, s => planAt_succ m (later t [s]) s
theorem planL_succ : ∀ (m : Nat) (t s : Int), planL (m + 1) t s = planL m t s ++ [planAt m t s]
  | 0, _, _ => rfl
  | m + 1, t, s => by
    show t :: planL (m + 1) (later t [s]) s = (t :: planL m (later t [s]) s) ++ [planAt m (later t [s]) s]
    rw [planL_succ m]; rfl
theorem planL_len : ∀ (m : Nat) (t s : Int), (planL m t s).length = m
  | 0, _, _ => rfl
  | m + 1, t, s => by show (planL m (later t [s]) s).length + 1 = _; rw [planL_len m]
def planN (n : Int) : Nat := (min (max n 0) 8).toNat
def plan (n from_ stagger : Int) : List Int := planL (planN n) (clamp from_) stagger

theorem next_any (g h : Nat) (t s : Int) (w : World) (hc : w.cell? ⟨g, 0, none⟩ = some (.int .i64 t)) (hs : w.cell? ⟨h, 0, none⟩ = some (.int .i64 s)) (hf : w.frozen? ⟨g, 0, none⟩ = false) :
    Calls Try.prog 18 #[.pointer (some ⟨g, 0, none⟩), .pointer (some ⟨h, 0, none⟩)] w fun e w' => e = .returned (.int .i64 t) ∧ ∃ o, w' = (w.setCell ⟨g, 0, none⟩ (.int .i64 (later t [s]))).alloc o := by
  have hg := block_lt_of_cell hc
  have hh := block_lt_of_cell hs
  go_enter Try.func18, Try.ntmps18
  go_wp2_with fail
  refine (Later_any _ _ _ _ _ _ _ (Ints.at1_ _ _ _ _ (by simp)) (by omega)).mono ?_
  rintro e w' ⟨rfl, rfl⟩
  go_wp2_with fail
  go_ret
  exact ⟨rfl, _, rfl⟩

def PlanInv (w : World) (t0 s : Int) (m : Nat) (s6 s15 : Value) (wr : World) : Prop :=
  ∃ (k : Nat) (r : List Int) (A' : Option Addr) (c' : Nat), k ≤ m ∧ r = planL k t0 s ∧ r.length = k ∧ s15 = .int .i64 k ∧ s6 = .slice A' k c' ∧ OwI wr (w.heap.size + 2) 3 A' k c' r ∧ Below w.heap.size w wr ∧
    w.heap.size + 2 ≤ wr.heap.size ∧ wr.cell? ⟨w.heap.size, 0, none⟩ = some (.int .i64 s) ∧ wr.cell? ⟨w.heap.size + 1, 0, none⟩ = some (.int .i64 (planAt k t0 s)) ∧ wr.frozen? ⟨w.heap.size + 1, 0, none⟩ = false

set_option maxHeartbeats 800000 in
theorem Plan_any (n from_ stagger : Int) (w : World) :
    Calls Try.prog 13 #[.int .i64 n, .int .i64 from_, .int .i64 stagger] w fun e w' => ∃ A' c', e = .returned (.slice A' (planN n) c') ∧ OwI w' w.heap.size 3 A' (planN n) c' (plan n from_ stagger) ∧ Below w.heap.size w w' := by
  have hmf : ∀ (fn : Fn) (first cap : Array Value) (w : World), (Instr.makeFunc fn first cap).run Try.prog w = .ok (.func fn first cap) w := fun _ _ _ _ => rfl
  have hm : planN n ≤ 8 := by unfold planN; omega
  rcases (by omega : n < 0 ∨ (0 ≤ n ∧ n ≤ 8) ∨ 8 < n) with h | ⟨h, h1⟩ | h
  · have hN : (planN n : Int) = 0 := by unfold planN; omega
    have HN := Lib.hid hN
    clear hN
    go_enter Try.func13, Try.ntmps13
    go_wp2_with (go_at_call 17; refine (Clamp_any _ _).mono ?_; rintro e w' ⟨rfl, rfl⟩)
    go_loopw [6, 15] (fun s6 s15 wr => PlanInv w (clamp from_) stagger (planN n) s6 s15 wr) (fun _ s15 _ => planN n - (intOf s15).toNat)
    case atStart => exact ⟨0, [], none, 0, Nat.zero_le _, rfl, rfl, rfl, rfl, OwI.nil_ _ _ _ _, ((Below.refl _ _).alloc (Nat.le_refl _) _).alloc (by simp) _, by simp, by simp, by simp [planAt], by simp⟩
    case round =>
      obtain ⟨k, r, A1, c1, hk, hr, hrl, rfl, rfl, ho, hb, hsz, hcs, hct, hfr⟩ := hrel
      by_cases hlt : k < planN n
      · exact absurd hlt (by have := HN.out; omega)
      · have hlt' : ¬ (k : Int) < 0 := by have := HN.out; omega
        obtain rfl : k = planN n := by omega
        go_wp2
        go_ret
        exact ⟨A1, c1, rfl, by unfold plan; rw [← hr]; exact Ow.rebase ho (by omega), hb⟩
  · have hN : (planN n : Int) = n := by unfold planN; omega
    have HN := Lib.hid hN
    clear hN
    go_enter Try.func13, Try.ntmps13
    go_wp2_with (go_at_call 17; refine (Clamp_any _ _).mono ?_; rintro e w' ⟨rfl, rfl⟩)
    go_loopw [6, 15] (fun s6 s15 wr => PlanInv w (clamp from_) stagger (planN n) s6 s15 wr) (fun _ s15 _ => planN n - (intOf s15).toNat)
    case atStart => exact ⟨0, [], none, 0, Nat.zero_le _, rfl, rfl, rfl, rfl, OwI.nil_ _ _ _ _, ((Below.refl _ _).alloc (Nat.le_refl _) _).alloc (by simp) _, by simp, by simp, by simp [planAt], by simp⟩
    case round =>
      obtain ⟨k, r, A1, c1, hk, hr, hrl, rfl, rfl, ho, hb, hsz, hcs, hct, hfr⟩ := hrel
      by_cases hlt : k < planN n
      · have hlt' : (k : Int) < n := by have := HN.out; omega
        have hr' : Hid (r ++ [planAt k (clamp from_) stagger] = planL (k + 1) (clamp from_) stagger) := by show _ = _; rw [planL_succ, hr]
        have ht' := Lib.hid (planAt_succ k (clamp from_) stagger)
        have HR := Lib.hid hr
        have HRL := Lib.hid hrl
        clear hr hrl hm
        go_wp2_with fail
        refine (next_any _ _ _ _ _ hct hcs hfr).mono ?_
        rintro e w1 ⟨rfl, o, rfl⟩
        have hb1 : Below w.heap.size w ((wr.setCell ⟨w.heap.size + 1, 0, none⟩ (.int .i64 (later (planAt k (clamp from_) stagger) [stagger]))).alloc o) := (hb.setCell (by simp) _).alloc (by have := hb.size; simp; omega) _
        have ho1 : OwI ((wr.setCell ⟨w.heap.size + 1, 0, none⟩ (.int .i64 (later (planAt k (clamp from_) stagger) [stagger]))).alloc o) (w.heap.size + 2) 3 A1 k c1 r := (Ow.set ho (fun q hq => by have := ho.row q hq; simp; omega) _).alloc _
        have hs1 : ((wr.setCell ⟨w.heap.size + 1, 0, none⟩ (.int .i64 (later (planAt k (clamp from_) stagger) [stagger]))).alloc o).cell? ⟨w.heap.size, 0, none⟩ = some (.int .i64 stagger) := by
          rw [World.cell?_alloc_past _ _ _ (by simp; omega), World.cell?_setCell_other _ _ _ _ (by simp)]
          exact hcs
        have ht1 : ((wr.setCell ⟨w.heap.size + 1, 0, none⟩ (.int .i64 (later (planAt k (clamp from_) stagger) [stagger]))).alloc o).cell? ⟨w.heap.size + 1, 0, none⟩ = some (.int .i64 (planAt (k + 1) (clamp from_) stagger)) := by
          rw [World.cell?_alloc_past _ _ _ (by simp; omega), World.cell?_setCell_same _ _ _ hct, ht'.out]
        have hf1 : ((wr.setCell ⟨w.heap.size + 1, 0, none⟩ (.int .i64 (later (planAt k (clamp from_) stagger) [stagger]))).alloc o).frozen? ⟨w.heap.size + 1, 0, none⟩ = false := by
          rw [World.frozen?_alloc_past _ _ _ (by simp; omega)]
          simpa using hfr
        have hz1 : w.heap.size + 2 ≤ ((wr.setCell ⟨w.heap.size + 1, 0, none⟩ (.int .i64 (later (planAt k (clamp from_) stagger) [stagger]))).alloc o).heap.size := by simp; omega
        generalize ((wr.setCell ⟨w.heap.size + 1, 0, none⟩ (.int .i64 (later (planAt k (clamp from_) stagger) [stagger]))).alloc o) = w1 at *
        clear hcs hct hfr ho hb hsz
        go_wp2_with (at_builtin; refine wpList_appI _ rfl (.tmp 17) (.tmp 20) rfl (w.heap.size + 2) _ _ _ _ rfl (ho1.alloc _) _ _ _ _ _ rfl (Ints.at1_ _ _ _ _ (by simp)) (by omega) (by simp; omega) ?_; intro A2 c2 w2 ho2 hg2 hr2)
        have hkr : ∀ q, q < w.heap.size + 2 → some q ≠ rowOf A1 c1 := by
          intro q hq e
          have := ho1.row _ e.symm
          omega
        go_roundw
        case rel => exact ⟨k + 1, r ++ [planAt k (clamp from_) stagger], A2, c2, by omega, hr'.out, by simp [HRL.out], by go_num, by simp, by simpa using ho2, (hb1.alloc hb1.size _).grown hg2 (by have := hb1.size; simp; omega) (fun q hq => by have := ho1.row q hq; omega), by have := hg2.size; simp at this; omega,
          hg2.cell (by rw [World.cell?_alloc_past _ _ _ (by omega)]; exact hs1) (hkr _ (by simp)), hg2.cell (by rw [World.cell?_alloc_past _ _ _ (by omega)]; exact ht1) (hkr _ (by simp)),
          by rw [World.frozen?_of_block (w := w1.alloc (.cells #[.int .i64 (planAt k (clamp from_) stagger)] 3)) (hg2.block _ (by simp; omega) (hkr _ (by simp))), World.frozen?_alloc_past _ _ _ (by omega)]; exact hf1⟩
        case measure => simp [intOf]; omega
      · have hlt' : ¬ (k : Int) < n := by have := HN.out; omega
        obtain rfl : k = planN n := by omega
        go_wp2
        go_ret
        exact ⟨A1, c1, rfl, by unfold plan; rw [← hr]; exact Ow.rebase ho (by omega), hb⟩
  · have hN : (planN n : Int) = 8 := by unfold planN; omega
    have HN := Lib.hid hN
    clear hN
    go_enter Try.func13, Try.ntmps13
    go_wp2_with (go_at_call 17; refine (Clamp_any _ _).mono ?_; rintro e w' ⟨rfl, rfl⟩)
    go_loopw [6, 15] (fun s6 s15 wr => PlanInv w (clamp from_) stagger (planN n) s6 s15 wr) (fun _ s15 _ => planN n - (intOf s15).toNat)
    case atStart => exact ⟨0, [], none, 0, Nat.zero_le _, rfl, rfl, rfl, rfl, OwI.nil_ _ _ _ _, ((Below.refl _ _).alloc (Nat.le_refl _) _).alloc (by simp) _, by simp, by simp, by simp [planAt], by simp⟩
    case round =>
      obtain ⟨k, r, A1, c1, hk, hr, hrl, rfl, rfl, ho, hb, hsz, hcs, hct, hfr⟩ := hrel
      by_cases hlt : k < planN n
      · have hlt' : (k : Int) < 8 := by have := HN.out; omega
        have hr' : Hid (r ++ [planAt k (clamp from_) stagger] = planL (k + 1) (clamp from_) stagger) := by show _ = _; rw [planL_succ, hr]
        have ht' := Lib.hid (planAt_succ k (clamp from_) stagger)
        have HR := Lib.hid hr
        have HRL := Lib.hid hrl
        clear hr hrl hm
        go_wp2_with fail
        refine (next_any _ _ _ _ _ hct hcs hfr).mono ?_
        rintro e w1 ⟨rfl, o, rfl⟩
        have hb1 : Below w.heap.size w ((wr.setCell ⟨w.heap.size + 1, 0, none⟩ (.int .i64 (later (planAt k (clamp from_) stagger) [stagger]))).alloc o) := (hb.setCell (by simp) _).alloc (by have := hb.size; simp; omega) _
        have ho1 : OwI ((wr.setCell ⟨w.heap.size + 1, 0, none⟩ (.int .i64 (later (planAt k (clamp from_) stagger) [stagger]))).alloc o) (w.heap.size + 2) 3 A1 k c1 r := (Ow.set ho (fun q hq => by have := ho.row q hq; simp; omega) _).alloc _
        have hs1 : ((wr.setCell ⟨w.heap.size + 1, 0, none⟩ (.int .i64 (later (planAt k (clamp from_) stagger) [stagger]))).alloc o).cell? ⟨w.heap.size, 0, none⟩ = some (.int .i64 stagger) := by
          rw [World.cell?_alloc_past _ _ _ (by simp; omega), World.cell?_setCell_other _ _ _ _ (by simp)]
          exact hcs
        have ht1 : ((wr.setCell ⟨w.heap.size + 1, 0, none⟩ (.int .i64 (later (planAt k (clamp from_) stagger) [stagger]))).alloc o).cell? ⟨w.heap.size + 1, 0, none⟩ = some (.int .i64 (planAt (k + 1) (clamp from_) stagger)) := by
          rw [World.cell?_alloc_past _ _ _ (by simp; omega), World.cell?_setCell_same _ _ _ hct, ht'.out]
        have hf1 : ((wr.setCell ⟨w.heap.size + 1, 0, none⟩ (.int .i64 (later (planAt k (clamp from_) stagger) [stagger]))).alloc o).frozen? ⟨w.heap.size + 1, 0, none⟩ = false := by
          rw [World.frozen?_alloc_past _ _ _ (by simp; omega)]
          simpa using hfr
        have hz1 : w.heap.size + 2 ≤ ((wr.setCell ⟨w.heap.size + 1, 0, none⟩ (.int .i64 (later (planAt k (clamp from_) stagger) [stagger]))).alloc o).heap.size := by simp; omega
        generalize ((wr.setCell ⟨w.heap.size + 1, 0, none⟩ (.int .i64 (later (planAt k (clamp from_) stagger) [stagger]))).alloc o) = w1 at *
        clear hcs hct hfr ho hb hsz
        go_wp2_with (at_builtin; refine wpList_appI _ rfl (.tmp 17) (.tmp 20) rfl (w.heap.size + 2) _ _ _ _ rfl (ho1.alloc _) _ _ _ _ _ rfl (Ints.at1_ _ _ _ _ (by simp)) (by omega) (by simp; omega) ?_; intro A2 c2 w2 ho2 hg2 hr2)
        have hkr : ∀ q, q < w.heap.size + 2 → some q ≠ rowOf A1 c1 := by
          intro q hq e
          have := ho1.row _ e.symm
          omega
        go_roundw
        case rel => exact ⟨k + 1, r ++ [planAt k (clamp from_) stagger], A2, c2, by omega, hr'.out, by simp [HRL.out], by go_num, by simp, by simpa using ho2, (hb1.alloc hb1.size _).grown hg2 (by have := hb1.size; simp; omega) (fun q hq => by have := ho1.row q hq; omega), by have := hg2.size; simp at this; omega,
          hg2.cell (by rw [World.cell?_alloc_past _ _ _ (by omega)]; exact hs1) (hkr _ (by simp)), hg2.cell (by rw [World.cell?_alloc_past _ _ _ (by omega)]; exact ht1) (hkr _ (by simp)),
          by rw [World.frozen?_of_block (w := w1.alloc (.cells #[.int .i64 (planAt k (clamp from_) stagger)] 3)) (hg2.block _ (by simp; omega) (hkr _ (by simp))), World.frozen?_alloc_past _ _ _ (by omega)]; exact hf1⟩
        case measure => simp [intOf]; omega
      · have hlt' : ¬ (k : Int) < 8 := by have := HN.out; omega
        obtain rfl : k = planN n := by omega
        go_wp2
        go_ret
        exact ⟨A1, c1, rfl, by unfold plan; rw [← hr]; exact Ow.rebase ho (by omega), hb⟩
end Go.Proofs.Ytcmgcbkhjdeinaa
