/-
  What probe.Spent, Sift, Same compute, and the document's has, Spent, Sift of chapter 22. Conditions: the slice arguments read as lists of at most 1000.
-/
import Derived.Test.YtfjhommmplencaaRestEq
import Derived.Test.YtfjhommmplencaaLaws
import Derived.Test.YtfjhommmplencaaAgeRef
import Derived.Test.YtfjhommmplencaaFuncsI
import Derived.Test.YtfjhommmplencaaLineRef
import Derived.OneCell
import Derived.Shelf.Abstract
import Derived.Deep.AppendLies
namespace Go.Proofs.Ytfjhommmplencaa
open Go.RowKit Go.Shelf

theorem below_drewN {B : Nat} {w w' : World} (h : Below B w w') (m : Nat) : Below B w (w'.drewN m) := ⟨h.os, h.tape, h.output, h.size, h.block⟩
theorem two_cells {w : World} {g : Nat} {a b : Value} {t : TypeId} (h : w.heap[g]? = some (.cells #[a, b] t (0, 0))) :
    w.cell? ⟨g, 0, none⟩ = some a ∧ w.cell? ⟨g, 1, none⟩ = some b ∧ w.frozen? ⟨g, 0, none⟩ = false ∧ w.frozen? ⟨g, 1, none⟩ = false :=
  ⟨by simp [World.cell?, h], by simp [World.cell?, h], by simp [World.frozen?, h], by simp [World.frozen?, h]⟩
/-- Who is spent: dead, or too old. -/
def spentR (dead : List Int) (long now : Int) (x : Re) : Bool := decide (x.1 ∈ dead) || oldB x.2 long now
def goodR (dead : List Int) (long now : Int) (x : Re) : Bool := !spentR dead long now x
def goodL (l : List Re) (dead : List Int) (long now : Int) : List Re := l.filter (goodR dead long now)
def outL (l : List Re) (dead : List Int) (long now : Int) : List Int := (l.filter (spentR dead long now)).map (·.1)
theorem goodL_le (l : List Re) (dead : List Int) (long now : Int) : (goodL l dead long now).length ≤ l.length := List.length_filter_le _ _
theorem outL_le (l : List Re) (dead : List Int) (long now : Int) : (outL l dead long now).length ≤ l.length := by unfold outL; rw [List.length_map]; exact List.length_filter_le _ _
theorem goodL_snoc {l : List Re} {k : Nat} {x : Re} (dead : List Int) (long now : Int) (hx : l[k]? = some x) : goodL (l.take (k + 1)) dead long now = if spentR dead long now x then goodL (l.take k) dead long now else goodL (l.take k) dead long now ++ [x] := by
  unfold goodL
  rw [take_succ_of hx, List.filter_append]
  cases h : spentR dead long now x <;> simp [goodR, h]
theorem outL_snoc {l : List Re} {k : Nat} {x : Re} (dead : List Int) (long now : Int) (hx : l[k]? = some x) : outL (l.take (k + 1)) dead long now = if spentR dead long now x then outL (l.take k) dead long now ++ [x.1] else outL (l.take k) dead long now := by
  unfold outL
  rw [take_succ_of hx, List.filter_append]
  cases h : spentR dead long now x <;> simp [h]
/-- Rows of other types lie apart. -/
theorem row_apart {w : World} {b1 b2 k1 k2 n1 n2 c1 c2 : Nat} {e1 e2 : TypeId} {A1 A2 : Option Addr} {xs ys : List Value} (h1 : Ow w b1 e1 k1 A1 n1 c1 xs) (h2 : Ow w b2 e2 k2 A2 n2 c2 ys) (he : e1 ≠ e2) : rowOf A1 c1 = none ∨ rowOf A1 c1 ≠ rowOf A2 c2 := by
  rcases h1.2.2.2 with h | ⟨g, cur, rfl, _, hh, _⟩
  · exact .inl (by simp [rowOf, h])
  · by_cases hc : c1 = 0
    · exact .inl (by simp [rowOf, hc])
    · right
      intro e
      rcases h2.2.2.2 with h | ⟨g2, cur2, rfl, _, hh2, _⟩
      · simp [rowOf, hc, h] at e
      · by_cases hc2 : c2 = 0
        · simp [rowOf, hc, hc2] at e
        · simp [rowOf, hc, hc2] at e
          subst e
          rw [hh] at hh2
          simp at hh2
          exact he hh2.2

/-- What a test for the spent ones has captured. -/
def SpentCaps (w : World) (caps : Array Value) (dead : List Int) (long now : Int) : Prop :=
  ∃ g1 g2 g3 A n c, caps = #[.pointer (some ⟨g1, 0, none⟩), .pointer (some ⟨g2, 0, none⟩), .pointer (some ⟨g3, 0, none⟩)] ∧ w.cell? ⟨g1, 0, none⟩ = some (.slice A n c) ∧ w.cell? ⟨g2, 0, none⟩ = some (.int .i64 long) ∧ w.cell? ⟨g3, 0, none⟩ = some (.int .i64 now) ∧
    Ints w w.heap.size A n dead ∧ n ≤ 1000
theorem SpentCaps.below {w w' : World} {caps : Array Value} {dead : List Int} {long now : Int} (h : SpentCaps w caps dead long now) (hb : Below w.heap.size w w') : SpentCaps w' caps dead long now := by
  obtain ⟨g1, g2, g3, A, n, c, e, h1, h2, h3, h4, h5⟩ := h
  exact ⟨g1, g2, g3, A, n, c, e, (hb.cell (p := ⟨g1, 0, none⟩) (block_lt_of_cell h1)).trans h1, (hb.cell (p := ⟨g2, 0, none⟩) (block_lt_of_cell h2)).trans h2, (hb.cell (p := ⟨g3, 0, none⟩) (block_lt_of_cell h3)).trans h3, (h4.below hb).more hb.size, h5⟩
theorem SpentCaps.drewN {w : World} {caps : Array Value} {dead : List Int} {long now : Int} (h : SpentCaps w caps dead long now) (m : Nat) : SpentCaps (w.drewN m) caps dead long now := h
theorem eg_spent : ∀ args w, (callFunc 33 args).run Try.prog w = .ok (.enter 33 args) w := enters_of Try.func33 (by kernel_rfl) rfl
theorem spentC_any (x : Re) (caps : Array Value) (dead : List Int) (long now : Int) (w : World) (h : SpentCaps w caps dead long now) :
    Calls Try.prog 33 (#[.agg #[.int .i64 x.1, .int .i64 x.2]] ++ caps) w fun e w' => e = .returned (.bool (spentR dead long now x)) ∧ Below w.heap.size w w' := by
  obtain ⟨g1, g2, g3, A, n, c, rfl, h1, h2, h3, h4, h5⟩ := h
  have l1 := block_lt_of_cell h1
  have l2 := block_lt_of_cell h2
  have l3 := block_lt_of_cell h3
  have ha := h4.alloc (Nat.le_refl _) (.cells #[.int .i64 x.1, .int .i64 x.2] 26)
  have hcall := ContainsI_any A n c w.heap.size dead x.1 _ ha (by omega)
  simp only [List.append_toArray, List.cons_append, List.nil_append]
  cases hd : decide (x.1 ∈ dead)
  · rw [hd] at hcall
    have HR : Hid (spentR dead long now x = oldB x.2 long now) := by show _ = _; unfold spentR; rw [hd, Bool.false_or]
    clear hd
    go_enter Try.func33, Try.ntmps33
    go_wp2_with (first | (go_at_call 34; refine hcall.mono ?_; rintro e w' ⟨rfl, rfl⟩) | (go_at_call 35; refine (Old_any _ _ _ _).mono ?_; rintro e w' ⟨rfl, rfl⟩))
    go_ret
    exact ⟨ret_bool HR.out.symm, Below.new_ _ _⟩
  · rw [hd] at hcall
    have HR : Hid (spentR dead long now x = true) := by show _ = _; unfold spentR; rw [hd, Bool.true_or]
    clear hd
    go_enter Try.func33, Try.ntmps33
    go_wp2_with (go_at_call 34; refine hcall.mono ?_; rintro e w' ⟨rfl, rfl⟩)
    go_ret
    exact ⟨ret_bool HR.out.symm, Below.new_ _ _⟩
theorem spent_any (long now : Int) (A : Option Addr) (n c : Nat) (dead : List Int) (w : World) (hl : Ints w w.heap.size A n dead) (hn : n ≤ 1000) :
    Calls Try.prog 22 #[.int .i64 long, .int .i64 now, .slice A n c] w fun e w' => ∃ caps, e = .returned (.func (.func 33) #[] caps) ∧ SpentCaps w' caps dead long now ∧ Below w.heap.size w w' := by
  go_enter Try.func22, Try.ntmps22
  go_wp2_with fail
  go_ret
  refine ⟨_, rfl, ⟨_, _, _, A, n, c, rfl, (by first | (simp; done) | (go_simp; done)), (by first | (simp; done) | (go_simp; done)), (by first | (simp; done) | (go_simp; done)), ?_, hn⟩, ((Below.new_ w _).alloc (by first | omega | (simp; done) | (simp; omega)) _).alloc (by first | omega | (simp; done) | (simp; omega)) _⟩
  exact (((hl.alloc (Nat.le_refl _) _).alloc (by first | omega | (simp; done) | (simp; omega)) _).alloc (by first | omega | (simp; done) | (simp; omega)) _).more (by first | omega | (simp; done) | (simp; omega))

theorem rhas_any (A : Option Addr) (n c B : Nat) (l : List Int) (x : Int) (w : World) (hl : Ints w B A n l) (hn : n ≤ 1000) :
    Calls Try.prog 25 #[.slice A n c, .int .i64 x] w fun e w' => e = .returned (.bool (decide (x ∈ l))) ∧ w = w' := by
  have HL := Lib.hid hl.len
  go_enter Try.func25, Try.ntmps25
  go_wp2
  go_loop [5] (fun s5 => ∃ k : Nat, k ≤ n ∧ s5 = .int .i64 k ∧ Hid (x ∉ l.take k)) (fun s5 => n - (intOf s5).toNat)
  case atStart => exact ⟨0, Nat.zero_le _, rfl, by show _ ∉ _; simp⟩
  case round =>
    obtain ⟨k, hk, rfl, hno⟩ := hrel
    by_cases hlt : k < n
    · obtain ⟨b, off, y, rfl, hbb, hy, hc⟩ := hl.at_ hlt
      by_cases hp : y = x
      · have hin : decide (x ∈ l) = true := by
          have := List.mem_of_getElem? hy.out
          rw [hp] at this
          simpa using this
        have HIN := Lib.hid hin
        have hq : (y == x) = true := by simpa using hp
        clear hin hp
        go_wp2
        go_ret
        exact ⟨ret_bool HIN.out.symm, rfl⟩
      · have hno2 : Hid (x ∉ l.take (k + 1)) := by
          show _ ∉ _
          rw [take_succ_of hy.out]
          have := hno.out
          simp only [List.mem_append, List.mem_singleton, not_or]
          exact ⟨this, fun e => hp e.symm⟩
        have hq : (y == x) = false := by simpa using hp
        clear hp
        go_wp2
        go_round
        case rel => exact ⟨k + 1, by omega, by go_num, hno2⟩
        case measure => simp [intOf]; omega
    · have hin : decide (x ∈ l) = false := by
        have := hno.out
        rw [List.take_of_length_le (by rw [HL.out]; omega)] at this
        simpa using this
      have HIN := Lib.hid hin
      clear hin
      go_wp2
      go_ret
      exact ⟨ret_bool HIN.out.symm, rfl⟩
theorem rSpent_any (x : Re) (long now : Int) (A : Option Addr) (n c : Nat) (dead : List Int) (w : World) (hl : Ints w w.heap.size A n dead) (hn : n ≤ 1000) :
    Calls Try.prog 17 #[.agg #[.int .i64 x.1, .int .i64 x.2], .int .i64 long, .int .i64 now, .slice A n c] w fun e w' => e = .returned (.bool (spentR dead long now x)) ∧ Below w.heap.size w w' := by
  have ha := hl.alloc (Nat.le_refl _) (.cells #[.int .i64 x.1, .int .i64 x.2] 26)
  have hcall := rhas_any A n c w.heap.size dead x.1 _ ha hn
  cases hd : decide (x.1 ∈ dead)
  · rw [hd] at hcall
    have HR : Hid (spentR dead long now x = oldB x.2 long now) := by show _ = _; unfold spentR; rw [hd, Bool.false_or]
    clear hd
    go_enter Try.func17, Try.ntmps17
    go_wp2_with (go_at_call 25; refine hcall.mono ?_; rintro e w' ⟨rfl, rfl⟩)
    refine (rOld_any _ _ _ _).mono ?_
    rintro e w1 ⟨rfl, hb⟩
    have hbw := (Below.new_ w _).trans (hb.mono (by first | omega | (simp; done) | (simp; omega)))
    go_wp2_with fail
    go_ret
    exact ⟨ret_bool HR.out.symm, hbw⟩
  · rw [hd] at hcall
    have HR : Hid (spentR dead long now x = true) := by show _ = _; unfold spentR; rw [hd, Bool.true_or]
    clear hd
    go_enter Try.func17, Try.ntmps17
    go_wp2_with (go_at_call 25; refine hcall.mono ?_; rintro e w' ⟨rfl, rfl⟩)
    go_ret
    exact ⟨ret_bool HR.out.symm, Below.new_ _ _⟩
theorem Spent_any (x : Re) (long now : Int) (A : Option Addr) (n c : Nat) (dead : List Int) (w : World) (hl : Ints w w.heap.size A n dead) (hn : n ≤ 1000) :
    Calls Try.prog 12 #[.agg #[.int .i64 x.1, .int .i64 x.2], .int .i64 long, .int .i64 now, .slice A n c] w fun e w' => e = .returned (.bool (spentR dead long now x)) ∧ Below w.heap.size w w' := by
  have eg := eg_spent
  go_enter Try.func12, Try.ntmps12
  go_upto_region 1 with fail
  have hx : (w.alloc (.cells #[.int .i64 x.1, .int .i64 x.2] 26)).heap[w.heap.size]? = some (.cells #[.int .i64 x.1, .int .i64 x.2] 26 (0, 0)) := heap_alloc_new w _
  replace hl : Ints (w.alloc (.cells #[.int .i64 x.1, .int .i64 x.2] 26)) (w.alloc (.cells #[.int .i64 x.1, .int .i64 x.2] 26)).heap.size A n dead := (hl.alloc (Nat.le_refl _) _).more (by first | omega | (simp; done) | (simp; omega))
  have lx : w.heap.size < (w.alloc (.cells #[.int .i64 x.1, .int .i64 x.2] 26)).heap.size := by simp
  have hb := Below.new_ w (.cells #[.int .i64 x.1, .int .i64 x.2] 26)
  generalize (w.alloc (.cells #[.int .i64 x.1, .int .i64 x.2] 26)) = W at *
  have hS : Below W.heap.size W W.drew := (Below.refl _ _).drew
  refine wp_region_held_drew (S := (fun wx => Below W.heap.size W wx)) (by kernel_rfl) ?_ (fun hHeld => ?_)
  · (try dsimp only); first | done | (exact hS)
  first
    | (refine wpAnyH_take (i := 0) (v := ?_) rfl (by kernel_rfl) (by kernel_rfl) (by kernel_rfl) (fun _ _ _ h => h) (Or.inl ⟨by rfl, ?_⟩) hHeld ?_; rotate_left; (intro wq hSw; (try dsimp only at hSw); go_simp; done))
    | (refine wpAnyH_take (i := 0) (v := ?_) rfl (by kernel_rfl) (by kernel_rfl) (by kernel_rfl) (fun _ _ _ h => h) (Or.inl ⟨by rfl, ?_⟩) hHeld ?_; rotate_left; (intro wq hSw; (try dsimp only at hSw); go_simp; with_reducible rfl))
    | refine wpAnyH_take (i := 0) (v := undef) rfl (by kernel_rfl) (by kernel_rfl) (by kernel_rfl) (fun _ _ _ h => h) (Or.inr ⟨by rfl, rfl⟩) hHeld ?_
  try simp only [Act.put, List.getElem_toArray, List.getElem_cons_succ, List.getElem_cons_zero, List.setIfInBounds_toArray, List.set_cons_zero, List.set_cons_succ]
  first
    | (refine wpAnyH_take (i := 1) (v := ?_) rfl (by kernel_rfl) (by kernel_rfl) (by kernel_rfl) (fun _ _ _ h => h) (Or.inl ⟨by rfl, ?_⟩) hHeld ?_; rotate_left; (intro wq hSw; (try dsimp only at hSw); go_simp; done))
    | (refine wpAnyH_take (i := 1) (v := ?_) rfl (by kernel_rfl) (by kernel_rfl) (by kernel_rfl) (fun _ _ _ h => h) (Or.inl ⟨by rfl, ?_⟩) hHeld ?_; rotate_left; (intro wq hSw; (try dsimp only at hSw); go_simp; with_reducible rfl))
    | refine wpAnyH_take (i := 1) (v := undef) rfl (by kernel_rfl) (by kernel_rfl) (by kernel_rfl) (fun _ _ _ h => h) (Or.inr ⟨by rfl, rfl⟩) hHeld ?_
  try simp only [Act.put, List.getElem_toArray, List.getElem_cons_succ, List.getElem_cons_zero, List.setIfInBounds_toArray, List.set_cons_zero, List.set_cons_succ]
  first
    | (refine wpAnyH_take (i := 2) (v := ?_) rfl (by kernel_rfl) (by kernel_rfl) (by kernel_rfl) (fun _ _ _ h => h) (Or.inl ⟨by rfl, ?_⟩) hHeld ?_; rotate_left; (intro wq hSw; (try dsimp only at hSw); go_simp; done))
    | (refine wpAnyH_take (i := 2) (v := ?_) rfl (by kernel_rfl) (by kernel_rfl) (by kernel_rfl) (fun _ _ _ h => h) (Or.inl ⟨by rfl, ?_⟩) hHeld ?_; rotate_left; (intro wq hSw; (try dsimp only at hSw); go_simp; with_reducible rfl))
    | refine wpAnyH_take (i := 2) (v := undef) rfl (by kernel_rfl) (by kernel_rfl) (by kernel_rfl) (fun _ _ _ h => h) (Or.inr ⟨by rfl, rfl⟩) hHeld ?_
  try simp only [Act.put, List.getElem_toArray, List.getElem_cons_succ, List.getElem_cons_zero, List.setIfInBounds_toArray, List.set_cons_zero, List.set_cons_succ]
  first
    | (refine wpAnyH_take (i := 4) (v := ?_) rfl (by kernel_rfl) (by kernel_rfl) (by kernel_rfl) (fun _ _ _ h => h) (Or.inl ⟨by rfl, ?_⟩) hHeld ?_; rotate_left; (intro wq hSw; (try dsimp only at hSw); obtain ⟨z0, z1, _, _⟩ := two_cells ((hSw.block _ lx).trans hx); go_simp; done))
    | (refine wpAnyH_take (i := 4) (v := ?_) rfl (by kernel_rfl) (by kernel_rfl) (by kernel_rfl) (fun _ _ _ h => h) (Or.inl ⟨by rfl, ?_⟩) hHeld ?_; rotate_left; (intro wq hSw; (try dsimp only at hSw); obtain ⟨z0, z1, _, _⟩ := two_cells ((hSw.block _ lx).trans hx); go_simp; with_reducible rfl))
    | refine wpAnyH_take (i := 4) (v := undef) rfl (by kernel_rfl) (by kernel_rfl) (by kernel_rfl) (fun _ _ _ h => h) (Or.inr ⟨by rfl, rfl⟩) hHeld ?_
  try simp only [Act.put, List.getElem_toArray, List.getElem_cons_succ, List.getElem_cons_zero, List.setIfInBounds_toArray, List.set_cons_zero, List.set_cons_succ]
  refine wpAnyH_ready (rs := [3]) (by kernel_rfl) (by simp) ?_
  refine AllReadyH.cons rfl (fun K hK => ?_) AllReadyH.nil
  go_simp; go_at_call 22; refine (spent_any _ _ _ _ _ dead _ ((hl.below hS).more hS.size) hn).mono ?_; rintro e wx ⟨caps, rfl, hcap, hbx⟩; replace hS := hS.trans (hbx.mono hS.size); clear hbx; try go_wp2_with fail
  refine hK.out _ _ ?_ (fun hHeld => ?_)
  · (try dsimp only); first | done | (exact hS)
  clear hK K
  try simp only [Act.put, List.getElem_toArray, List.getElem_cons_succ, List.getElem_cons_zero, List.setIfInBounds_toArray, List.set_cons_zero, List.set_cons_succ]
  refine wpAnyH_ready (rs := [5]) (by kernel_rfl) (by simp) ?_
  refine AllReadyH.cons rfl (fun K hK => ?_) AllReadyH.nil
  go_simp; go_at_fn 33; refine (spentC_any x caps dead _ _ _ hcap).mono ?_; rintro e wx ⟨rfl, hbx⟩; replace hS := hS.trans (hbx.mono hS.size); clear hbx; try go_wp2_with fail
  refine hK.out _ _ ?_ (fun hHeld => ?_)
  · (try dsimp only); first | done | (exact hS)
  clear hK K
  try simp only [Act.put, List.getElem_toArray, List.getElem_cons_succ, List.getElem_cons_zero, List.setIfInBounds_toArray, List.set_cons_zero, List.set_cons_succ]
  first
    | (refine wpAnyH_take (i := 6) (v := ?_) rfl (by kernel_rfl) (by kernel_rfl) (by kernel_rfl) (fun _ _ _ h => h) (Or.inl ⟨by rfl, ?_⟩) hHeld ?_; rotate_left; (intro wq hSw; (try dsimp only at hSw); go_simp; done))
    | (refine wpAnyH_take (i := 6) (v := ?_) rfl (by kernel_rfl) (by kernel_rfl) (by kernel_rfl) (fun _ _ _ h => h) (Or.inl ⟨by rfl, ?_⟩) hHeld ?_; rotate_left; (intro wq hSw; (try dsimp only at hSw); go_simp; with_reducible rfl))
    | refine wpAnyH_take (i := 6) (v := undef) rfl (by kernel_rfl) (by kernel_rfl) (by kernel_rfl) (fun _ _ _ h => h) (Or.inr ⟨by rfl, rfl⟩) hHeld ?_
  try simp only [Act.put, List.getElem_toArray, List.getElem_cons_succ, List.getElem_cons_zero, List.setIfInBounds_toArray, List.set_cons_zero, List.set_cons_succ]
  refine wpAnyH_done (by kernel_rfl) ?_ _
  (go_wp2_with fail; go_ret; exact ⟨rfl, hb.trans (hS.mono hb.size)⟩)
theorem SameP_any (A1 A2 : Option Addr) (n1 n2 c1 c2 : Nat) (a b : List Re) (w : World) (ha : Res w w.heap.size A1 n1 a) (hb : Res w w.heap.size A2 n2 b) (hn1 : n1 ≤ 1000) (hn2 : n2 ≤ 1000) :
    Calls Try.prog 19 #[.slice A1 n1 c1, .slice A2 n2 c2] w fun e w' => e = .returned (.bool (decide (a = b))) ∧ Below w.heap.size w w' := by
  go_enter Try.func19, Try.ntmps19
  go_wp2_with fail
  refine (EqualR_any _ _ _ _ _ _ _ _ a b _ ha hb (by omega) (by omega)).mono ?_
  rintro e w1 ⟨rfl, hb1⟩
  go_wp2_with fail
  go_ret
  exact ⟨rfl, hb1⟩
end Go.Proofs.Ytfjhommmplencaa
