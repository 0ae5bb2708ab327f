/-
  What the methods of caller's client compute: own, done, wish, puts, cases. Conditions: the owners' slice reads as a list; bounds are premises.
-/
import Derived.Test.YtamfbbmkkhcnpaaCall
import Derived.Test.YtamfbbmkkhcnpaaLaws
import Derived.BigQuiet
import Derived.RegionTactic
import Derived.StillTailTactics
import Derived.Deep.QuietTactic
namespace Go.Proofs.Ytamfbbmkkhcnpaa
open Go.RowKit

theorem DOf_any (p q : Int) (w : World) (hq : 0 ≤ q) (hq2 : q < 5) : Calls Try.prog 31 #[.int .i64 p, .int .i64 q] w fun e w' => e = .returned (.int .i64 (ofD p q)) ∧ w = w' := by
  have d2 : decide (q < 0) = false := by simp; omega
  have d3 : decide (5 ≤ q) = false := by simp; omega
  by_cases hp : p < 0
  · have d1 : decide (p < 0) = true := by simpa using hp
    have HR : Hid (ofD p q = -1) := by show _ = _; unfold ofD; rw [if_pos hp]
    clear hp
    go_enter Try.func31, Try.ntmps31
    go_wp2
    go_ret
    exact ⟨ret_int HR.out.symm, rfl⟩
  · have d1 : decide (p < 0) = false := by simpa using hp
    have HR : Hid (ofD p q = wrap64 (wrap64 (p * 5) + q)) := by show _ = _; unfold ofD; rw [if_neg hp]
    clear hp hq hq2
    go_enter Try.func31, Try.ntmps31
    go_wp2
    go_ret
    exact ⟨ret_int (by rw [HR.out]), rfl⟩
theorem rOf5_any (p q : Int) (w : World) (hq : 0 ≤ q) (hq2 : q < 5) (hp0 : 0 ≤ p) (hp1 : p ≤ 1099511627776) : Calls Try.prog 10 #[.int .i64 p, .int .i64 q] w fun e w' => e = .returned (.int .i64 (p * 5 + q)) ∧ w = w' := by
  have d2 : decide (q < 0) = false := by simp; omega
  have d3 : decide (5 ≤ q) = false := by simp; omega
  have d1 : decide (p < 0) = false := by simp; omega
  go_enter Try.func10, Try.ntmps10
  go_wp2
  go_ret
  exact ⟨ret_int (by omega), rfl⟩

theorem below_drewN {B : Nat} {w w' : World} (h : Below B w w') (m : Nat) : Below B w (w'.drewN m) := ⟨h.os, h.tape, h.output, h.size, h.block⟩
set_option maxHeartbeats 800000 in
theorem own_any (g : Nat) (x : Ca) (D : Option Addr) (dn dc : Nat) (q : Int) (w : World) (h : Cl w g x D dn dc) (hq : 0 ≤ q) (hq2 : q < 5) :
    Calls Try.prog 28 #[.pointer (some ⟨g, 0, none⟩), .int .i64 q] w fun e w' => e = .returned (.agg #[.int .i8 (1, ofD x.id q, 0, 0, 0, 0).1, .int .i64 (1, ofD x.id q, 0, 0, 0, 0).2.1, .int .i8 (1, ofD x.id q, 0, 0, 0, 0).2.2.1, .int .i64 (1, ofD x.id q, 0, 0, 0, 0).2.2.2.1, .int .i64 (1, ofD x.id q, 0, 0, 0, 0).2.2.2.2.1, .int .i64 (1, ofD x.id q, 0, 0, 0, 0).2.2.2.2.2, .string ⟨#[]⟩, .int .i64 0, .int .i64 0]) ∧ Below w.heap.size w w' := by
  obtain ⟨z0, z1, z2, z3, z4, z5, z6, z7, z8, z9, z10, z11⟩ := h.cells
  have l1 := h.lt
  go_enter Try.func28, Try.ntmps28
  go_wp2_with (go_at_call 31; refine (DOf_any _ _ _ hq hq2).mono ?_; rintro e w' ⟨rfl, rfl⟩)
  exact bodyPost_ret (v := .agg #[.int .i8 (1, ofD x.id q, 0, 0, 0, 0).1, .int .i64 (1, ofD x.id q, 0, 0, 0, 0).2.1, .int .i8 (1, ofD x.id q, 0, 0, 0, 0).2.2.1, .int .i64 (1, ofD x.id q, 0, 0, 0, 0).2.2.2.1, .int .i64 (1, ofD x.id q, 0, 0, 0, 0).2.2.2.2.1, .int .i64 (1, ofD x.id q, 0, 0, 0, 0).2.2.2.2.2, .string ⟨#[]⟩, .int .i64 0, .int .i64 0]) (by simp [results, Try.results28, go_sem]) rfl ⟨rfl, Below.new_ _ _⟩
set_option maxHeartbeats 800000 in
theorem done_any (g : Nat) (x : Ca) (D : Option Addr) (dn dc : Nat) (w : World) (h : Cl w g x D dn dc) :
    Calls Try.prog 27 #[.pointer (some ⟨g, 0, none⟩)] w fun e w' => e = .returned (.agg #[.int .i8 (1, x.done, 0, 0, 0, 0).1, .int .i64 (1, x.done, 0, 0, 0, 0).2.1, .int .i8 (1, x.done, 0, 0, 0, 0).2.2.1, .int .i64 (1, x.done, 0, 0, 0, 0).2.2.2.1, .int .i64 (1, x.done, 0, 0, 0, 0).2.2.2.2.1, .int .i64 (1, x.done, 0, 0, 0, 0).2.2.2.2.2, .string ⟨#[]⟩, .int .i64 0, .int .i64 0]) ∧ Below w.heap.size w w' := by
  obtain ⟨z0, z1, z2, z3, z4, z5, z6, z7, z8, z9, z10, z11⟩ := h.cells
  have l1 := h.lt
  go_enter Try.func27, Try.ntmps27
  go_wp2_with fail
  exact bodyPost_ret (v := .agg #[.int .i8 (1, x.done, 0, 0, 0, 0).1, .int .i64 (1, x.done, 0, 0, 0, 0).2.1, .int .i8 (1, x.done, 0, 0, 0, 0).2.2.1, .int .i64 (1, x.done, 0, 0, 0, 0).2.2.2.1, .int .i64 (1, x.done, 0, 0, 0, 0).2.2.2.2.1, .int .i64 (1, x.done, 0, 0, 0, 0).2.2.2.2.2, .string ⟨#[]⟩, .int .i64 0, .int .i64 0]) (by simp [results, Try.results27, go_sem]) rfl ⟨rfl, Below.new_ _ _⟩
/-- What a caller wishes: its letter's kind, number, socket. -/
def wishK (x : Ca) : Int × Int × Int := if x.op = 0 then (1, 0, 0) else if x.op = 1 then (2, 1, x.sock) else if x.op = 2 then (2, 0, x.sock) else (4, 0, 0)
set_option maxRecDepth 100000 in
set_option maxHeartbeats 1600000 in
theorem wish_any (g : Nat) (x : Ca) (D : Option Addr) (dn dc : Nat) (w : World) (h : Cl w g x D dn dc) :
    Calls Try.prog 26 #[.pointer (some ⟨g, 0, none⟩)] w fun e w' => e = .returned (.agg #[.int .i8 (wishK x).1, .int .i64 0, .int .i64 (wishK x).2.1, .int .i64 (wishK x).2.2, .string ⟨#[]⟩, .int .i64 0]) ∧ Below w.heap.size w w' := by
  obtain ⟨z0, z1, z2, z3, z4, z5, z6, z7, z8, z9, z10, z11⟩ := h.cells
  have l1 := h.lt
  have hb := fun (a b c : Int) => (Below.refl w.heap.size w).alloc (Nat.le_refl _) (.cells #[.int .i8 a, .int .i64 0, .int .i64 b, .int .i64 c, .string ⟨#[]⟩, .int .i64 0] 38)
  have hbd := fun (a b c : Int) => (hb a b c).drew
  rcases (by omega : x.op = 0 ∨ x.op = 1 ∨ x.op = 2 ∨ (x.op ≠ 0 ∧ x.op ≠ 1 ∧ x.op ≠ 2)) with h0 | h0 | h0 | ⟨h0, h1, h2⟩
  · have q0 : (x.op == 0) = true := by simpa using h0
    have HW : Hid (wishK x = (1, 0, 0)) := by show _ = _; unfold wishK; rw [if_pos h0]
    clear h0
    go_enter Try.func26, Try.ntmps26
    go_wp2_with fail
    exact bodyPost_ret (v := .agg #[.int .i8 1, .int .i64 0, .int .i64 0, .int .i64 0, .string ⟨#[]⟩, .int .i64 0]) (by simp [results, Try.results26, go_sem]) rfl ⟨by rw [HW.out], hb _ _ _⟩
  · have q0 : (x.op == 0) = false := by simp; omega
    have q1 : (x.op == 1) = true := by simpa using h0
    have HW : Hid (wishK x = (2, 1, x.sock)) := by show _ = _; unfold wishK; rw [if_neg (by omega), if_pos h0]
    clear h0
    go_enter Try.func26, Try.ntmps26
    go_wp2_with fail
    go_region
    go_wp2_with fail
    exact bodyPost_ret (v := .agg #[.int .i8 2, .int .i64 0, .int .i64 1, .int .i64 x.sock, .string ⟨#[]⟩, .int .i64 0]) (by simp [results, Try.results26, go_sem]) rfl ⟨by rw [HW.out], hbd _ _ _⟩
  · have q0 : (x.op == 0) = false := by simp; omega
    have q1 : (x.op == 1) = false := by simp; omega
    have q2 : (x.op == 2) = true := by simpa using h0
    have HW : Hid (wishK x = (2, 0, x.sock)) := by show _ = _; unfold wishK; rw [if_neg (by omega), if_neg (by omega), if_pos h0]
    clear h0
    go_enter Try.func26, Try.ntmps26
    go_wp2_with fail
    go_region
    go_wp2_with fail
    exact bodyPost_ret (v := .agg #[.int .i8 2, .int .i64 0, .int .i64 0, .int .i64 x.sock, .string ⟨#[]⟩, .int .i64 0]) (by simp [results, Try.results26, go_sem]) rfl ⟨by rw [HW.out], hbd _ _ _⟩
  · have q0 : (x.op == 0) = false := by simpa using h0
    have q1 : (x.op == 1) = false := by simpa using h1
    have q2 : (x.op == 2) = false := by simpa using h2
    have HW : Hid (wishK x = (4, 0, 0)) := by show _ = _; unfold wishK; rw [if_neg h0, if_neg h1, if_neg h2]
    clear h0 h1 h2
    go_enter Try.func26, Try.ntmps26
    go_wp2_with fail
    exact bodyPost_ret (v := .agg #[.int .i8 4, .int .i64 0, .int .i64 0, .int .i64 0, .string ⟨#[]⟩, .int .i64 0]) (by simp [results, Try.results26, go_sem]) rfl ⟨by rw [HW.out], hb _ _ _⟩

theorem nine_cells {w : World} {g : Nat} {v0 v1 v2 v3 v4 v5 v6 v7 v8 : Value} {t : TypeId} (h : w.heap[g]? = some (.cells #[v0, v1, v2, v3, v4, v5, v6, v7, v8] t (0, 0))) : w.cell? ⟨g, 0, none⟩ = some v0 ∧ w.cell? ⟨g, 1, none⟩ = some v1 ∧ w.cell? ⟨g, 2, none⟩ = some v2 ∧ w.cell? ⟨g, 3, none⟩ = some v3 ∧ w.cell? ⟨g, 4, none⟩ = some v4 ∧ w.cell? ⟨g, 5, none⟩ = some v5 ∧ w.cell? ⟨g, 6, none⟩ = some v6 ∧ w.cell? ⟨g, 7, none⟩ = some v7 ∧ w.cell? ⟨g, 8, none⟩ = some v8 :=
  ⟨by simp [World.cell?, h], by simp [World.cell?, h], by simp [World.cell?, h], by simp [World.cell?, h], by simp [World.cell?, h], by simp [World.cell?, h], by simp [World.cell?, h], by simp [World.cell?, h], by simp [World.cell?, h]⟩
theorem nine_free {w : World} {g : Nat} {v0 v1 v2 v3 v4 v5 v6 v7 v8 : Value} {t : TypeId} (h : w.heap[g]? = some (.cells #[v0, v1, v2, v3, v4, v5, v6, v7, v8] t (0, 0))) : w.frozen? ⟨g, 0, none⟩ = false ∧ w.frozen? ⟨g, 1, none⟩ = false ∧ w.frozen? ⟨g, 2, none⟩ = false ∧ w.frozen? ⟨g, 3, none⟩ = false ∧ w.frozen? ⟨g, 4, none⟩ = false ∧ w.frozen? ⟨g, 5, none⟩ = false ∧ w.frozen? ⟨g, 6, none⟩ = false ∧ w.frozen? ⟨g, 7, none⟩ = false ∧ w.frozen? ⟨g, 8, none⟩ = false :=
  ⟨by simp [World.frozen?, h], by simp [World.frozen?, h], by simp [World.frozen?, h], by simp [World.frozen?, h], by simp [World.frozen?, h], by simp [World.frozen?, h], by simp [World.frozen?, h], by simp [World.frozen?, h], by simp [World.frozen?, h]⟩
def nine_put (w : World) (g : Nat) (u0 u1 u2 u3 u4 u5 u6 u7 u8 : Value) : World := ((((((((w.setCell ⟨g, 0, none⟩ u0).setCell ⟨g, 1, none⟩ u1).setCell ⟨g, 2, none⟩ u2).setCell ⟨g, 3, none⟩ u3).setCell ⟨g, 4, none⟩ u4).setCell ⟨g, 5, none⟩ u5).setCell ⟨g, 6, none⟩ u6).setCell ⟨g, 7, none⟩ u7).setCell ⟨g, 8, none⟩ u8
theorem nine_put_at {w : World} {g : Nat} {v0 v1 v2 v3 v4 v5 v6 v7 v8 : Value} {t : TypeId} (u0 u1 u2 u3 u4 u5 u6 u7 u8 : Value) (h : w.heap[g]? = some (.cells #[v0, v1, v2, v3, v4, v5, v6, v7, v8] t (0, 0))) : (nine_put w g u0 u1 u2 u3 u4 u5 u6 u7 u8).heap[g]? = some (.cells #[u0, u1, u2, u3, u4, u5, u6, u7, u8] t (0, 0)) := by
  simp [nine_put, World.setCell, Array.getElem?_modify, h]
theorem nine_put_below {B : Nat} {w0 w : World} {g : Nat} (u0 u1 u2 u3 u4 u5 u6 u7 u8 : Value) (h : Below B w0 w) (hg : B ≤ g) : Below B w0 (nine_put w g u0 u1 u2 u3 u4 u5 u6 u7 u8) :=
  ((((((((h.setCell (p := ⟨g, 0, none⟩) hg _).setCell (p := ⟨g, 1, none⟩) hg _).setCell (p := ⟨g, 2, none⟩) hg _).setCell (p := ⟨g, 3, none⟩) hg _).setCell (p := ⟨g, 4, none⟩) hg _).setCell (p := ⟨g, 5, none⟩) hg _).setCell (p := ⟨g, 6, none⟩) hg _).setCell (p := ⟨g, 7, none⟩) hg _).setCell (p := ⟨g, 8, none⟩) hg _
/-- The owner's inbox: -1 of none. -/
def inboxD (x : Ca) (L : List Int) : Int := if x.op ≠ 4 then ofD x.owner 0 else if 0 ≤ x.i ∧ x.i < x.n then ofD (L.getD x.i.toNat 0) 0 else -1
set_option maxRecDepth 100000 in
set_option maxHeartbeats 3000000 in
theorem puts_any (g : Nat) (x : Ca) (D : Option Addr) (dn dc : Nat) (L : List Int) (k num sock : Int) (w : World) (h : Cl w g x D dn dc) (hs : Ints w w.heap.size x.A x.n L) (hn : x.n ≤ 1000) :
    Calls Try.prog 25 #[.pointer (some ⟨g, 0, none⟩), .agg #[.int .i8 k, .int .i64 0, .int .i64 num, .int .i64 sock, .string ⟨#[]⟩, .int .i64 0]] w fun e w' => e = .returned (.agg #[.int .i8 (0, inboxD x L, k, x.id, num, sock).1, .int .i64 (0, inboxD x L, k, x.id, num, sock).2.1, .int .i8 (0, inboxD x L, k, x.id, num, sock).2.2.1, .int .i64 (0, inboxD x L, k, x.id, num, sock).2.2.2.1, .int .i64 (0, inboxD x L, k, x.id, num, sock).2.2.2.2.1, .int .i64 (0, inboxD x L, k, x.id, num, sock).2.2.2.2.2, .string ⟨#[]⟩, .int .i64 0, .int .i64 0]) ∧ Below w.heap.size w w' := by
  obtain ⟨z0, z1, z2, z3, z4, z5, z6, z7, z8, z9, z10, z11⟩ := h.cells
  have l1 := h.lt
  have l2 : g < w.heap.size + 1 := by omega
  have l3 : g < w.heap.size + 1 + 1 := by omega
  by_cases h4 : x.op = 4
  · have q0 : (x.op != 4) = false := by simpa using h4
    by_cases hi : 0 ≤ x.i
    · by_cases hin : x.i < x.n
      · obtain ⟨b, off, y, eA, hbb, hy, hc⟩ := hs.at_ (i := x.i.toNat) (by omega)
        have d1 : decide (0 ≤ x.i) = true := by simpa using hi
        have d2 : decide (x.i < (x.n : Int)) = true := by simpa using hin
        have HI : Hid (inboxD x L = ofD y 0) := by show _ = _; unfold inboxD; rw [if_neg (by simpa using h4), if_pos ⟨hi, hin⟩, List.getD_eq_getElem?_getD, hy.out]; rfl
        rw [eA] at z5
        clear h4 eA
        go_enter Try.func25, Try.ntmps25
        go_upto_region 5 with fail
        go_quiet (fail)
        go_upto_region 6 with fail
        have y5 : World.cell? (((w.alloc (.cells #[.int .i8 k, .int .i64 x.id, .int .i64 num, .int .i64 sock, .string ⟨#[]⟩, .int .i64 0] 38)).alloc (.cells #[.int .i8 0, .int .i64 0, .int .i8 0, .int .i64 0, .int .i64 0, .int .i64 0, .string ⟨#[]⟩, .int .i64 0, .int .i64 0] 40)).alloc (.cells #[.int .i8 0, .int .i64 (-1), .int .i8 k, .int .i64 x.id, .int .i64 num, .int .i64 sock, .string ⟨#[]⟩, .int .i64 0, .int .i64 0] 40)) ⟨g, 5, none⟩ = some (.slice (some ⟨b, off, none⟩) x.n x.c) := (by first | (simp; done) | (go_simp; done))
        have y7 : World.cell? (((w.alloc (.cells #[.int .i8 k, .int .i64 x.id, .int .i64 num, .int .i64 sock, .string ⟨#[]⟩, .int .i64 0] 38)).alloc (.cells #[.int .i8 0, .int .i64 0, .int .i8 0, .int .i64 0, .int .i64 0, .int .i64 0, .string ⟨#[]⟩, .int .i64 0, .int .i64 0] 40)).alloc (.cells #[.int .i8 0, .int .i64 (-1), .int .i8 k, .int .i64 x.id, .int .i64 num, .int .i64 sock, .string ⟨#[]⟩, .int .i64 0, .int .i64 0] 40)) ⟨g, 7, none⟩ = some (.int .i64 x.i) := (by first | (simp; done) | (go_simp; done))
        have lb2 : b < w.heap.size + 1 := by omega
        have lb3 : b < w.heap.size + 1 + 1 := by omega
        have yc : World.cell? (((w.alloc (.cells #[.int .i8 k, .int .i64 x.id, .int .i64 num, .int .i64 sock, .string ⟨#[]⟩, .int .i64 0] 38)).alloc (.cells #[.int .i8 0, .int .i64 0, .int .i8 0, .int .i64 0, .int .i64 0, .int .i64 0, .string ⟨#[]⟩, .int .i64 0, .int .i64 0] 40)).alloc (.cells #[.int .i8 0, .int .i64 (-1), .int .i8 k, .int .i64 x.id, .int .i64 num, .int .i64 sock, .string ⟨#[]⟩, .int .i64 0, .int .i64 0] 40)) ⟨b, off + x.i.toNat, none⟩ = some (.int .i64 y) := (by first | (simp; done) | (go_simp; done))
        have ho := heap_alloc_new ((w.alloc (.cells #[.int .i8 k, .int .i64 x.id, .int .i64 num, .int .i64 sock, .string ⟨#[]⟩, .int .i64 0] 38)).alloc (.cells #[.int .i8 0, .int .i64 0, .int .i8 0, .int .i64 0, .int .i64 0, .int .i64 0, .string ⟨#[]⟩, .int .i64 0, .int .i64 0] 40)) (.cells #[.int .i8 0, .int .i64 (-1), .int .i8 k, .int .i64 x.id, .int .i64 num, .int .i64 sock, .string ⟨#[]⟩, .int .i64 0, .int .i64 0] 40)
        simp only [World.size_alloc] at ho
        have hr := (Below.heap_alloc ((w.alloc (.cells #[.int .i8 k, .int .i64 x.id, .int .i64 num, .int .i64 sock, .string ⟨#[]⟩, .int .i64 0] 38)).alloc (.cells #[.int .i8 0, .int .i64 0, .int .i8 0, .int .i64 0, .int .i64 0, .int .i64 0, .string ⟨#[]⟩, .int .i64 0, .int .i64 0] 40)) (.cells #[.int .i8 0, .int .i64 (-1), .int .i8 k, .int .i64 x.id, .int .i64 num, .int .i64 sock, .string ⟨#[]⟩, .int .i64 0, .int .i64 0] 40) (w.heap.size + 1) (by first | omega | (simp; done) | (simp; omega))).trans (by have := heap_alloc_new (w.alloc (.cells #[.int .i8 k, .int .i64 x.id, .int .i64 num, .int .i64 sock, .string ⟨#[]⟩, .int .i64 0] 38)) (.cells #[.int .i8 0, .int .i64 0, .int .i8 0, .int .i64 0, .int .i64 0, .int .i64 0, .string ⟨#[]⟩, .int .i64 0, .int .i64 0] 40); simp only [World.size_alloc] at this; exact this)
        have hbW := ((Below.new_ w (.cells #[.int .i8 k, .int .i64 x.id, .int .i64 num, .int .i64 sock, .string ⟨#[]⟩, .int .i64 0] 38)).alloc (by first | omega | (simp; done) | (simp; omega)) (.cells #[.int .i8 0, .int .i64 0, .int .i8 0, .int .i64 0, .int .i64 0, .int .i64 0, .string ⟨#[]⟩, .int .i64 0, .int .i64 0] 40)).alloc (by first | omega | (simp; done) | (simp; omega)) (.cells #[.int .i8 0, .int .i64 (-1), .int .i8 k, .int .i64 x.id, .int .i64 num, .int .i64 sock, .string ⟨#[]⟩, .int .i64 0, .int .i64 0] 40)
        generalize (((w.alloc (.cells #[.int .i8 k, .int .i64 x.id, .int .i64 num, .int .i64 sock, .string ⟨#[]⟩, .int .i64 0] 38)).alloc (.cells #[.int .i8 0, .int .i64 0, .int .i8 0, .int .i64 0, .int .i64 0, .int .i64 0, .string ⟨#[]⟩, .int .i64 0, .int .i64 0] 40)).alloc (.cells #[.int .i8 0, .int .i64 (-1), .int .i8 k, .int .i64 x.id, .int .i64 num, .int .i64 sock, .string ⟨#[]⟩, .int .i64 0, .int .i64 0] 40)) = W at y5 y7 yc ho hr hbW ⊢
        clear z0 z1 z2 z3 z4 z5 z6 z7 z8 z9 z10 z11 hc
        replace y5 : (W.drewN nq).cell? ⟨g, 5, none⟩ = some (.slice (some ⟨b, off, none⟩) x.n x.c) := y5
        replace y7 : (W.drewN nq).cell? ⟨g, 7, none⟩ = some (.int .i64 x.i) := y7
        replace yc : (W.drewN nq).cell? ⟨b, off + x.i.toNat, none⟩ = some (.int .i64 y) := yc
        replace ho : (W.drewN nq).heap[w.heap.size + 1 + 1]? = _ := ho
        replace hr : (W.drewN nq).heap[w.heap.size + 1]? = _ := hr
        replace hbW := below_drewN hbW nq
        generalize W.drewN nq = W7 at y5 y7 yc ho hr hbW ⊢
        refine wp_region_still_tail 12 (by kernel_rfl) (by kernel_rfl) ?_
        simp only [List.take_succ_cons, List.take_zero, List.drop_succ_cons, List.drop_zero]
        repeat still_step
        refine wpStill_nil ?_
        change wpList _ _ _ _ _ W7.drew
        replace hbW := hbW.drew
        replace ho : W7.drew.heap[w.heap.size + 1 + 1]? = _ := ho
        replace hr : W7.drew.heap[w.heap.size + 1]? = _ := hr
        clear y5 y7 yc
        generalize W7.drew = W8 at ho hr hbW ⊢
        have ho2 : (W8.setCell ⟨w.heap.size + 1 + 1, 1, none⟩ (.int .i64 (ofD y 0))).heap[w.heap.size + 1 + 1]? = some (.cells #[.int .i8 0, .int .i64 (ofD y 0), .int .i8 k, .int .i64 x.id, .int .i64 num, .int .i64 sock, .string ⟨#[]⟩, .int .i64 0, .int .i64 0] 40 (0, 0)) := by simp [World.setCell, Array.getElem?_modify, ho]
        have hr2 := (Below.heap_setCell W8 ⟨w.heap.size + 1 + 1, 1, none⟩ (.int .i64 (ofD y 0)) (w.heap.size + 1) (by simp)).trans hr
        have c1 := (nine_cells ho).2.1
        have f1 := (nine_free ho).2.1
        have hbX := hbW.setCell (p := ⟨w.heap.size + 1 + 1, 1, none⟩) (by simp; omega) (.int .i64 (ofD y 0))
        go_upto_region 7 with (go_at_call 31; refine (DOf_any _ _ _ (by omega) (by omega)).mono ?_; rintro e w' ⟨rfl, rfl⟩)
        generalize (W8.setCell ⟨w.heap.size + 1 + 1, 1, none⟩ (.int .i64 (ofD y 0))) = W9 at ho2 hr2 hbX ⊢
        clear ho hr c1 f1 hbW
        obtain ⟨c0, c1, c2, c3, c4, c5, c6, c7, c8⟩ := nine_cells ho2
        obtain ⟨r0, r1, r2, r3, r4, r5, r6, r7, r8⟩ := nine_cells hr2
        obtain ⟨f0, f1, f2, f3, f4, f5, f6, f7, f8⟩ := nine_free hr2
        go_wp2_with fail
        obtain ⟨q0, q1, q2, q3, q4, q5, q6, q7, q8⟩ := nine_cells (nine_put_at (.int .i8 0) (.int .i64 (ofD y 0)) (.int .i8 k) (.int .i64 x.id) (.int .i64 num) (.int .i64 sock) (.string ⟨#[]⟩) (.int .i64 0) (.int .i64 0) hr2)
        unfold nine_put at q0 q1 q2 q3 q4 q5 q6 q7 q8
        exact bodyPost_ret (v := .agg #[.int .i8 (0, ofD y 0, k, x.id, num, sock).1, .int .i64 (0, ofD y 0, k, x.id, num, sock).2.1, .int .i8 (0, ofD y 0, k, x.id, num, sock).2.2.1, .int .i64 (0, ofD y 0, k, x.id, num, sock).2.2.2.1, .int .i64 (0, ofD y 0, k, x.id, num, sock).2.2.2.2.1, .int .i64 (0, ofD y 0, k, x.id, num, sock).2.2.2.2.2, .string ⟨#[]⟩, .int .i64 0, .int .i64 0]) (by simp [results, Try.results25, go_sem, q0, q1, q2, q3, q4, q5, q6, q7, q8]) rfl ⟨by rw [HI.out], nine_put_below _ _ _ _ _ _ _ _ _ hbX (by omega)⟩
      · have d1 : decide (0 ≤ x.i) = true := by simpa using hi
        have d2 : decide (x.i < (x.n : Int)) = false := by simpa using hin
        have HI : Hid (inboxD x L = -1) := by show _ = _; unfold inboxD; rw [if_neg (by simpa using h4), if_neg (by omega)]
        clear h4 hi hin
        go_enter Try.func25, Try.ntmps25
        go_wp2_with fail
        go_quiet (fail)
        go_upto_region 7 with fail
        have ho := heap_alloc_new ((w.alloc (.cells #[.int .i8 k, .int .i64 x.id, .int .i64 num, .int .i64 sock, .string ⟨#[]⟩, .int .i64 0] 38)).alloc (.cells #[.int .i8 0, .int .i64 0, .int .i8 0, .int .i64 0, .int .i64 0, .int .i64 0, .string ⟨#[]⟩, .int .i64 0, .int .i64 0] 40)) (.cells #[.int .i8 0, .int .i64 (-1), .int .i8 k, .int .i64 x.id, .int .i64 num, .int .i64 sock, .string ⟨#[]⟩, .int .i64 0, .int .i64 0] 40)
        simp only [World.size_alloc] at ho
        have hr := (Below.heap_alloc ((w.alloc (.cells #[.int .i8 k, .int .i64 x.id, .int .i64 num, .int .i64 sock, .string ⟨#[]⟩, .int .i64 0] 38)).alloc (.cells #[.int .i8 0, .int .i64 0, .int .i8 0, .int .i64 0, .int .i64 0, .int .i64 0, .string ⟨#[]⟩, .int .i64 0, .int .i64 0] 40)) (.cells #[.int .i8 0, .int .i64 (-1), .int .i8 k, .int .i64 x.id, .int .i64 num, .int .i64 sock, .string ⟨#[]⟩, .int .i64 0, .int .i64 0] 40) (w.heap.size + 1) (by first | omega | (simp; done) | (simp; omega))).trans (by have := heap_alloc_new (w.alloc (.cells #[.int .i8 k, .int .i64 x.id, .int .i64 num, .int .i64 sock, .string ⟨#[]⟩, .int .i64 0] 38)) (.cells #[.int .i8 0, .int .i64 0, .int .i8 0, .int .i64 0, .int .i64 0, .int .i64 0, .string ⟨#[]⟩, .int .i64 0, .int .i64 0] 40); simp only [World.size_alloc] at this; exact this)
        have hbX := ((Below.new_ w (.cells #[.int .i8 k, .int .i64 x.id, .int .i64 num, .int .i64 sock, .string ⟨#[]⟩, .int .i64 0] 38)).alloc (by first | omega | (simp; done) | (simp; omega)) (.cells #[.int .i8 0, .int .i64 0, .int .i8 0, .int .i64 0, .int .i64 0, .int .i64 0, .string ⟨#[]⟩, .int .i64 0, .int .i64 0] 40)).alloc (by first | omega | (simp; done) | (simp; omega)) (.cells #[.int .i8 0, .int .i64 (-1), .int .i8 k, .int .i64 x.id, .int .i64 num, .int .i64 sock, .string ⟨#[]⟩, .int .i64 0, .int .i64 0] 40)
        generalize (((w.alloc (.cells #[.int .i8 k, .int .i64 x.id, .int .i64 num, .int .i64 sock, .string ⟨#[]⟩, .int .i64 0] 38)).alloc (.cells #[.int .i8 0, .int .i64 0, .int .i8 0, .int .i64 0, .int .i64 0, .int .i64 0, .string ⟨#[]⟩, .int .i64 0, .int .i64 0] 40)).alloc (.cells #[.int .i8 0, .int .i64 (-1), .int .i8 k, .int .i64 x.id, .int .i64 num, .int .i64 sock, .string ⟨#[]⟩, .int .i64 0, .int .i64 0] 40)) = W at ho hr hbX ⊢
        replace ho : (W.drewN nq).heap[w.heap.size + 1 + 1]? = _ := ho
        replace hr : (W.drewN nq).heap[w.heap.size + 1]? = _ := hr
        replace hbX := below_drewN hbX nq
        generalize W.drewN nq = W9 at ho hr hbX ⊢
        clear z0 z1 z2 z3 z4 z5 z6 z7 z8 z9 z10 z11
        obtain ⟨c0, c1, c2, c3, c4, c5, c6, c7, c8⟩ := nine_cells ho
        obtain ⟨r0, r1, r2, r3, r4, r5, r6, r7, r8⟩ := nine_cells hr
        obtain ⟨f0, f1, f2, f3, f4, f5, f6, f7, f8⟩ := nine_free hr
        go_wp2_with fail
        obtain ⟨q0, q1, q2, q3, q4, q5, q6, q7, q8⟩ := nine_cells (nine_put_at (.int .i8 0) (.int .i64 (-1)) (.int .i8 k) (.int .i64 x.id) (.int .i64 num) (.int .i64 sock) (.string ⟨#[]⟩) (.int .i64 0) (.int .i64 0) hr)
        unfold nine_put at q0 q1 q2 q3 q4 q5 q6 q7 q8
        exact bodyPost_ret (v := .agg #[.int .i8 (0, -1, k, x.id, num, sock).1, .int .i64 (0, -1, k, x.id, num, sock).2.1, .int .i8 (0, -1, k, x.id, num, sock).2.2.1, .int .i64 (0, -1, k, x.id, num, sock).2.2.2.1, .int .i64 (0, -1, k, x.id, num, sock).2.2.2.2.1, .int .i64 (0, -1, k, x.id, num, sock).2.2.2.2.2, .string ⟨#[]⟩, .int .i64 0, .int .i64 0]) (by simp [results, Try.results25, go_sem, q0, q1, q2, q3, q4, q5, q6, q7, q8]) rfl ⟨by rw [HI.out], nine_put_below _ _ _ _ _ _ _ _ _ hbX (by omega)⟩
    · have d1 : decide (0 ≤ x.i) = false := by simpa using hi
      have HI : Hid (inboxD x L = -1) := by show _ = _; unfold inboxD; rw [if_neg (by simpa using h4), if_neg (by omega)]
      clear h4 hi
      go_enter Try.func25, Try.ntmps25
      go_wp2_with fail
      go_quiet (fail)
      go_upto_region 7 with fail
      have ho := heap_alloc_new ((w.alloc (.cells #[.int .i8 k, .int .i64 x.id, .int .i64 num, .int .i64 sock, .string ⟨#[]⟩, .int .i64 0] 38)).alloc (.cells #[.int .i8 0, .int .i64 0, .int .i8 0, .int .i64 0, .int .i64 0, .int .i64 0, .string ⟨#[]⟩, .int .i64 0, .int .i64 0] 40)) (.cells #[.int .i8 0, .int .i64 (-1), .int .i8 k, .int .i64 x.id, .int .i64 num, .int .i64 sock, .string ⟨#[]⟩, .int .i64 0, .int .i64 0] 40)
      simp only [World.size_alloc] at ho
      have hr := (Below.heap_alloc ((w.alloc (.cells #[.int .i8 k, .int .i64 x.id, .int .i64 num, .int .i64 sock, .string ⟨#[]⟩, .int .i64 0] 38)).alloc (.cells #[.int .i8 0, .int .i64 0, .int .i8 0, .int .i64 0, .int .i64 0, .int .i64 0, .string ⟨#[]⟩, .int .i64 0, .int .i64 0] 40)) (.cells #[.int .i8 0, .int .i64 (-1), .int .i8 k, .int .i64 x.id, .int .i64 num, .int .i64 sock, .string ⟨#[]⟩, .int .i64 0, .int .i64 0] 40) (w.heap.size + 1) (by first | omega | (simp; done) | (simp; omega))).trans (by have := heap_alloc_new (w.alloc (.cells #[.int .i8 k, .int .i64 x.id, .int .i64 num, .int .i64 sock, .string ⟨#[]⟩, .int .i64 0] 38)) (.cells #[.int .i8 0, .int .i64 0, .int .i8 0, .int .i64 0, .int .i64 0, .int .i64 0, .string ⟨#[]⟩, .int .i64 0, .int .i64 0] 40); simp only [World.size_alloc] at this; exact this)
      have hbX := ((Below.new_ w (.cells #[.int .i8 k, .int .i64 x.id, .int .i64 num, .int .i64 sock, .string ⟨#[]⟩, .int .i64 0] 38)).alloc (by first | omega | (simp; done) | (simp; omega)) (.cells #[.int .i8 0, .int .i64 0, .int .i8 0, .int .i64 0, .int .i64 0, .int .i64 0, .string ⟨#[]⟩, .int .i64 0, .int .i64 0] 40)).alloc (by first | omega | (simp; done) | (simp; omega)) (.cells #[.int .i8 0, .int .i64 (-1), .int .i8 k, .int .i64 x.id, .int .i64 num, .int .i64 sock, .string ⟨#[]⟩, .int .i64 0, .int .i64 0] 40)
      generalize (((w.alloc (.cells #[.int .i8 k, .int .i64 x.id, .int .i64 num, .int .i64 sock, .string ⟨#[]⟩, .int .i64 0] 38)).alloc (.cells #[.int .i8 0, .int .i64 0, .int .i8 0, .int .i64 0, .int .i64 0, .int .i64 0, .string ⟨#[]⟩, .int .i64 0, .int .i64 0] 40)).alloc (.cells #[.int .i8 0, .int .i64 (-1), .int .i8 k, .int .i64 x.id, .int .i64 num, .int .i64 sock, .string ⟨#[]⟩, .int .i64 0, .int .i64 0] 40)) = W at ho hr hbX ⊢
      replace ho : (W.drewN nq).heap[w.heap.size + 1 + 1]? = _ := ho
      replace hr : (W.drewN nq).heap[w.heap.size + 1]? = _ := hr
      replace hbX := below_drewN hbX nq
      generalize W.drewN nq = W9 at ho hr hbX ⊢
      clear z0 z1 z2 z3 z4 z5 z6 z7 z8 z9 z10 z11
      obtain ⟨c0, c1, c2, c3, c4, c5, c6, c7, c8⟩ := nine_cells ho
      obtain ⟨r0, r1, r2, r3, r4, r5, r6, r7, r8⟩ := nine_cells hr
      obtain ⟨f0, f1, f2, f3, f4, f5, f6, f7, f8⟩ := nine_free hr
      go_wp2_with fail
      obtain ⟨q0, q1, q2, q3, q4, q5, q6, q7, q8⟩ := nine_cells (nine_put_at (.int .i8 0) (.int .i64 (-1)) (.int .i8 k) (.int .i64 x.id) (.int .i64 num) (.int .i64 sock) (.string ⟨#[]⟩) (.int .i64 0) (.int .i64 0) hr)
      unfold nine_put at q0 q1 q2 q3 q4 q5 q6 q7 q8
      exact bodyPost_ret (v := .agg #[.int .i8 (0, -1, k, x.id, num, sock).1, .int .i64 (0, -1, k, x.id, num, sock).2.1, .int .i8 (0, -1, k, x.id, num, sock).2.2.1, .int .i64 (0, -1, k, x.id, num, sock).2.2.2.1, .int .i64 (0, -1, k, x.id, num, sock).2.2.2.2.1, .int .i64 (0, -1, k, x.id, num, sock).2.2.2.2.2, .string ⟨#[]⟩, .int .i64 0, .int .i64 0]) (by simp [results, Try.results25, go_sem, q0, q1, q2, q3, q4, q5, q6, q7, q8]) rfl ⟨by rw [HI.out], nine_put_below _ _ _ _ _ _ _ _ _ hbX (by omega)⟩
  · have q0 : (x.op != 4) = true := by simpa using h4
    have HI : Hid (inboxD x L = ofD x.owner 0) := by show _ = _; unfold inboxD; rw [if_pos h4]
    clear h4
    go_enter Try.func25, Try.ntmps25
    go_wp2_with (go_at_call 31; refine (DOf_any _ _ _ (by omega) (by omega)).mono ?_; rintro e w' ⟨rfl, rfl⟩)
    exact bodyPost_ret (v := .agg #[.int .i8 (0, ofD x.owner 0, k, x.id, num, sock).1, .int .i64 (0, ofD x.owner 0, k, x.id, num, sock).2.1, .int .i8 (0, ofD x.owner 0, k, x.id, num, sock).2.2.1, .int .i64 (0, ofD x.owner 0, k, x.id, num, sock).2.2.2.1, .int .i64 (0, ofD x.owner 0, k, x.id, num, sock).2.2.2.2.1, .int .i64 (0, ofD x.owner 0, k, x.id, num, sock).2.2.2.2.2, .string ⟨#[]⟩, .int .i64 0, .int .i64 0]) (by simp [results, Try.results25, go_sem]) rfl ⟨by rw [HI.out], ((Below.new_ w _).alloc (by first | omega | (simp; done) | (simp; omega)) _).alloc (by first | omega | (simp; done) | (simp; omega)) _⟩
end Go.Proofs.Ytamfbbmkkhcnpaa
