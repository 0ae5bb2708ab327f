/-
  What has, Spent, Sift and Top of switchboardref22 compute. Conditions: the slice arguments read as lists of at most 1000.
-/
import Derived.Test.YthjanhfjehccoaaRestEq
import Derived.Test.YthjanhfjehccoaaLaws
import Derived.Test.YthjanhfjehccoaaAgeRef
import Derived.Test.YthjanhfjehccoaaFuncsI
import Derived.Test.YthjanhfjehccoaaLineRef
import Derived.OneCell
import Derived.Shelf.Abstract
import Derived.Deep.AppendLies
import Derived.RegionTactic
namespace Go.Proofs.Ythjanhfjehccoaa
set_option linter.unusedVariables false
set_option linter.unusedSimpArgs false
open Go.RowKit Go.Shelf

theorem below_drewN {B : Nat} {w w' : World} (h : Below B w w') (m : Nat) : Below B w (w'.drewN m) := ⟨h.os, h.tape, h.output, h.size, h.block⟩
theorem two_cells {w : World} {g : Nat} {a b : Value} {t : TypeId} (h : w.heap[g]? = some (.cells #[a, b] t (0, 0))) :
    w.cell? ⟨g, 0, none⟩ = some a ∧ w.cell? ⟨g, 1, none⟩ = some b ∧ w.frozen? ⟨g, 0, none⟩ = false ∧ w.frozen? ⟨g, 1, none⟩ = false :=
  ⟨by simp [World.cell?, h], by simp [World.cell?, h], by simp [World.frozen?, h], by simp [World.frozen?, h]⟩
/-- Who is spent: dead, or too old. -/
def spentR (dead : List Int) (long now : Int) (x : Re) : Bool := decide (x.1 ∈ dead) || oldB x.2 long now
def goodR (dead : List Int) (long now : Int) (x : Re) : Bool := !spentR dead long now x
def goodL (l : List Re) (dead : List Int) (long now : Int) : List Re := l.filter (goodR dead long now)
def outL (l : List Re) (dead : List Int) (long now : Int) : List Int := (l.filter (spentR dead long now)).map (·.1)
theorem goodL_le (l : List Re) (dead : List Int) (long now : Int) : (goodL l dead long now).length ≤ l.length := List.length_filter_le _ _
theorem outL_le (l : List Re) (dead : List Int) (long now : Int) : (outL l dead long now).length ≤ l.length := by unfold outL; rw [List.length_map]; exact List.length_filter_le _ _
theorem goodL_snoc {l : List Re} {k : Nat} {x : Re} (dead : List Int) (long now : Int) (hx : l[k]? = some x) : goodL (l.take (k + 1)) dead long now = if spentR dead long now x then goodL (l.take k) dead long now else goodL (l.take k) dead long now ++ [x] := by
  unfold goodL
  rw [take_succ_of hx, List.filter_append]
  cases h : spentR dead long now x <;> simp [goodR, h]
theorem outL_snoc {l : List Re} {k : Nat} {x : Re} (dead : List Int) (long now : Int) (hx : l[k]? = some x) : outL (l.take (k + 1)) dead long now = if spentR dead long now x then outL (l.take k) dead long now ++ [x.1] else outL (l.take k) dead long now := by
  unfold outL
  rw [take_succ_of hx, List.filter_append]
  cases h : spentR dead long now x <;> simp [h]
/-- Rows of other types lie apart. -/
theorem row_apart {w : World} {b1 b2 k1 k2 n1 n2 c1 c2 : Nat} {e1 e2 : TypeId} {A1 A2 : Option Addr} {xs ys : List Value} (h1 : Ow w b1 e1 k1 A1 n1 c1 xs) (h2 : Ow w b2 e2 k2 A2 n2 c2 ys) (he : e1 ≠ e2) : rowOf A1 c1 = none ∨ rowOf A1 c1 ≠ rowOf A2 c2 := by
  rcases h1.2.2.2 with h | ⟨g, cur, rfl, _, hh, _⟩
  · exact .inl (by simp [rowOf, h])
  · by_cases hc : c1 = 0
    · exact .inl (by simp [rowOf, hc])
    · right
      intro e
      rcases h2.2.2.2 with h | ⟨g2, cur2, rfl, _, hh2, _⟩
      · simp [rowOf, hc, h] at e
      · by_cases hc2 : c2 = 0
        · simp [rowOf, hc, hc2] at e
        · simp [rowOf, hc, hc2] at e
          subst e
          rw [hh] at hh2
          simp at hh2
          exact he hh2.2

theorem rhas_any (A : Option Addr) (n c B : Nat) (l : List Int) (x : Int) (w : World) (hl : Ints w B A n l) (hn : n ≤ 1000) :
    Calls Try.prog 61 #[.slice A n c, .int .i64 x] w fun e w' => e = .returned (.bool (decide (x ∈ l))) ∧ w = w' := by
  have HL := Lib.hid hl.len
  go_enter Try.func61, Try.ntmps61
  go_wp2
  go_loop [5] (fun s5 => ∃ k : Nat, k ≤ n ∧ s5 = .int .i64 k ∧ Hid (x ∉ l.take k)) (fun s5 => n - (intOf s5).toNat)
  case atStart => exact ⟨0, Nat.zero_le _, rfl, by show _ ∉ _; simp⟩
  case round =>
    obtain ⟨k, hk, rfl, hno⟩ := hrel
    by_cases hlt : k < n
    · obtain ⟨b, off, y, rfl, hbb, hy, hc⟩ := hl.at_ hlt
      by_cases hp : y = x
      · have hin : decide (x ∈ l) = true := by
          have := List.mem_of_getElem? hy.out
          rw [hp] at this
          simpa using this
        have HIN := Lib.hid hin
        have hq : (y == x) = true := by simpa using hp
        clear hin hp
        go_wp2
        go_ret
        exact ⟨ret_bool HIN.out.symm, rfl⟩
      · have hno2 : Hid (x ∉ l.take (k + 1)) := by
          show _ ∉ _
          rw [take_succ_of hy.out]
          have := hno.out
          simp only [List.mem_append, List.mem_singleton, not_or]
          exact ⟨this, fun e => hp e.symm⟩
        have hq : (y == x) = false := by simpa using hp
        clear hp
        go_wp2
        go_round
        case rel => exact ⟨k + 1, by omega, by go_num, hno2⟩
        case measure => simp [intOf]; omega
    · have hin : decide (x ∈ l) = false := by
        have := hno.out
        rw [List.take_of_length_le (by rw [HL.out]; omega)] at this
        simpa using this
      have HIN := Lib.hid hin
      clear hin
      go_wp2
      go_ret
      exact ⟨ret_bool HIN.out.symm, rfl⟩
theorem rSpent_any (x : Re) (long now : Int) (A : Option Addr) (n c : Nat) (dead : List Int) (w : World) (hl : Ints w w.heap.size A n dead) (hn : n ≤ 1000) :
    Calls Try.prog 45 #[.agg #[.int .i64 x.1, .int .i64 x.2], .int .i64 long, .int .i64 now, .slice A n c] w fun e w' => e = .returned (.bool (spentR dead long now x)) ∧ Below w.heap.size w w' := by
  have ha := hl.alloc (Nat.le_refl _) (.cells #[.int .i64 x.1, .int .i64 x.2] 67)
  have hcall := rhas_any A n c w.heap.size dead x.1 _ ha hn
  cases hd : decide (x.1 ∈ dead)
  · rw [hd] at hcall
    have HR : Hid (spentR dead long now x = oldB x.2 long now) := by show _ = _; unfold spentR; rw [hd, Bool.false_or]
    clear hd
    go_enter Try.func45, Try.ntmps45
    go_wp2_with (go_at_call 61; refine hcall.mono ?_; rintro e w' ⟨rfl, rfl⟩)
    refine (rOld_any _ _ _ _).mono ?_
    rintro e w1 ⟨rfl, hb⟩
    have hbw := (Below.new_ w _).trans (hb.mono (by first | omega | (simp; done) | (simp; omega)))
    go_wp2_with fail
    go_ret
    exact ⟨ret_bool HR.out.symm, hbw⟩
  · rw [hd] at hcall
    have HR : Hid (spentR dead long now x = true) := by show _ = _; unfold spentR; rw [hd, Bool.true_or]
    clear hd
    go_enter Try.func45, Try.ntmps45
    go_wp2_with (go_at_call 61; refine hcall.mono ?_; rintro e w' ⟨rfl, rfl⟩)
    go_ret
    exact ⟨ret_bool HR.out.symm, Below.new_ _ _⟩
set_option maxRecDepth 100000 in
set_option maxHeartbeats 2000000 in
theorem rSift_any (A : Option Addr) (n c : Nat) (l : List Re) (long now : Int) (As : Option Addr) (ns cs : Nat) (dead : List Int) (w : World) (hl : Res w w.heap.size A n l) (hn : n ≤ 1000) (hs : Ints w w.heap.size As ns dead) (hns : ns ≤ 1000) :
    Calls Try.prog 37 #[.slice A n c, .int .i64 long, .int .i64 now, .slice As ns cs] w fun e w' => ∃ A1 c1 A2 c2, e = .returned (.tuple #[.slice A1 (goodL l dead long now).length c1, .slice A2 (outL l dead long now).length c2]) ∧
      OwRe w' w.heap.size A1 (goodL l dead long now).length c1 (goodL l dead long now) ∧ OwI w' w.heap.size 3 A2 (outL l dead long now).length c2 (outL l dead long now) ∧ Below w.heap.size w w' := by
  have HL := Lib.hid hl.1
  go_enter Try.func37, Try.ntmps37
  go_wp2_with fail
  go_loopw [10, 11, 12] (fun s8 s9 s19 wr => ∃ (k m1 m2 : Nat) (A1 : Option Addr) (c1 : Nat) (A2 : Option Addr) (c2 : Nat), k ≤ n ∧ m1 ≤ k ∧ m2 ≤ k ∧ s19 = .int .i64 k ∧ s8 = .slice A1 m1 c1 ∧ s9 = .slice A2 m2 c2 ∧ OwRe wr w.heap.size A1 m1 c1 (goodL (l.take k) dead long now) ∧ OwI wr w.heap.size 3 A2 m2 c2 (outL (l.take k) dead long now) ∧ Below w.heap.size w wr) (fun _ _ s19 _ => n - (intOf s19).toNat)
  case atStart => exact ⟨0, 0, 0, none, 0, none, 0, Nat.zero_le _, Nat.zero_le _, Nat.zero_le _, rfl, rfl, rfl, OwR.nil_ _ _ _ _, OwI.nil_ _ _ _ _, Below.refl _ _⟩
  case round =>
    obtain ⟨k, m1, m2, A1, c1, A2, c2, hk, hm1, hm2, rfl, rfl, rfl, o1, o2, hb⟩ := hrel
    by_cases hlt : k < n
    · obtain ⟨b, off, x, rfl, hbb, hx, hc1, hc2⟩ := Res.cells (hl.below hb) hlt
      have hcall := rSpent_any x long now As ns cs dead wr ((hs.below hb).more hb.size) hns
      have g1 := goodL_snoc dead long now hx.out
      have g2 := outL_snoc dead long now hx.out
      cases hp : spentR dead long now x
      · rw [hp] at hcall g1 g2
        simp only [Bool.false_eq_true, if_false] at g1 g2
        have HG1 := Lib.hid g1
        have HG2 := Lib.hid g2
        clear g1 g2 hp
        go_upto_region 8 with (go_at_call 45; refine hcall.mono ?_; rintro e w2 ⟨rfl, hb2⟩)
        replace hb := hb.trans (hb2.mono hb.size)
        obtain ⟨q0, q1⟩ : w2.cell? ⟨b, off + k * 2, none⟩ = some (.int .i64 x.1) ∧ w2.cell? ⟨b, off + k * 2 + 1, none⟩ = some (.int .i64 x.2) := ⟨(hb2.cell (p := ⟨b, off + k * 2, none⟩) (block_lt_of_cell hc1)).trans hc1, (hb2.cell (p := ⟨b, off + k * 2 + 1, none⟩) (block_lt_of_cell hc2)).trans hc2⟩
        replace o1 := OwR.below o1 hb2
        replace o2 := OwI.below o2 hb2
        clear hcall hb2 hc1 hc2
        have hap := row_apart o2 o1.2 (by decide)
        go_wp2_with (at_builtin; refine wpList_appRe _ rfl (.tmp 35) (.tmp 40) rfl w.heap.size _ _ _ _ rfl (o1.alloc _) _ _ _ _ [x] rfl (Res.new1 _ _ (by simp) x _) (by omega) (by have := hb.size; simp; omega) ?_; intro A3 c3 w3 ho3 hg3 hr3)
        have hbw3 : Below w.heap.size w w3 := (hb.alloc hb.size _).grown hg3 (by have := hb.size; simp; omega) (fun g hg => (Ow.row o1.2 g hg).1)
        have ho4 : OwI w3 w.heap.size 3 A2 m2 c2 (outL (l.take k) dead long now) := Ow.kept (Ow.alloc o2 _) hg3 hap
        rw [← HG1.out] at ho3
        rw [← HG2.out] at ho4
        clear hg3 hr3 q0 q1
        go_wp2_with fail
        go_roundw
        case rel => exact ⟨k + 1, m1 + 1, m2, A3, c3, A2, c2, by omega, by omega, by omega, by go_num, rfl, rfl, ho3, ho4, hbw3⟩
        case measure => simp [intOf]; omega
      · rw [hp] at hcall g1 g2
        simp only [if_true] at g1 g2
        have HG1 := Lib.hid g1
        have HG2 := Lib.hid g2
        clear g1 g2 hp
        go_upto_region 7 with (go_at_call 45; refine hcall.mono ?_; rintro e w2 ⟨rfl, hb2⟩)
        replace hb := hb.trans (hb2.mono hb.size)
        obtain ⟨q0, q1⟩ : w2.cell? ⟨b, off + k * 2, none⟩ = some (.int .i64 x.1) ∧ w2.cell? ⟨b, off + k * 2 + 1, none⟩ = some (.int .i64 x.2) := ⟨(hb2.cell (p := ⟨b, off + k * 2, none⟩) (block_lt_of_cell hc1)).trans hc1, (hb2.cell (p := ⟨b, off + k * 2 + 1, none⟩) (block_lt_of_cell hc2)).trans hc2⟩
        replace o1 := OwR.below o1 hb2
        replace o2 := OwI.below o2 hb2
        clear hcall hb2 hc1 hc2
        have hap := row_apart o1.2 o2 (by decide)
        go_wp2_with (at_builtin; refine wpList_appI _ rfl (.tmp 27) (.tmp 33) rfl w.heap.size _ _ _ _ rfl (o2.alloc _) _ _ _ _ [x.1] rfl (Ints.at1_ _ _ _ _ (by first | omega | (simp; done) | (simp; omega))) (by omega) (by have := hb.size; simp; omega) ?_; intro A3 c3 w3 ho3 hg3 hr3)
        have hbw3 : Below w.heap.size w w3 := (hb.alloc hb.size _).grown hg3 (by have := hb.size; simp; omega) (fun g hg => (Ow.row o2 g hg).1)
        have ho4 : OwRe w3 w.heap.size A1 m1 c1 (goodL (l.take k) dead long now) := ⟨o1.1, Ow.kept (Ow.alloc o1.2 _) hg3 hap⟩
        rw [← HG2.out] at ho3
        rw [← HG1.out] at ho4
        clear hg3 hr3 q0 q1
        go_wp2_with fail
        go_roundw
        case rel => exact ⟨k + 1, m1, m2 + 1, A1, c1, A3, c3, by omega, by omega, by omega, by go_num, rfl, rfl, ho4, ho3, hbw3⟩
        case measure => simp [intOf]; omega
    · obtain rfl : k = n := by omega
      have ht : l.take k = l := List.take_of_length_le (by rw [HL.out]; omega)
      rw [ht] at o1 o2
      have H1 := Lib.hid o1.1
      have H2 := Lib.hid o2.len
      clear ht
      go_wp2_with fail
      go_ret2
      exact ⟨A1, c1, A2, c2, by rw [H1.out, H2.out]; rfl, by rw [H1.out]; exact o1, by rw [H2.out]; exact o2, hb⟩
/-- How many of a row's first k are left with the last good one among them: 0 of none. -/
def topN (dead : List Int) (long now : Int) (l : List Re) : Nat → Nat
  | 0 => 0
  | k + 1 => match l[k]? with
    | some x => if spentR dead long now x then topN dead long now l k else k + 1
    | none => topN dead long now l k
def topJ (l : List Re) (dead : List Int) (long now : Int) : Nat := topN dead long now l l.length
def topS (l : List Re) (j : Nat) : Int := if 0 < j then (l.getD (j - 1) (0, 0)).1 else -1
def topO (l : List Re) (j : Nat) : List Int := ((l.drop j).reverse).map (·.1)

theorem topN_skip {dead : List Int} {long now : Int} {l : List Re} {J : Nat} : ∀ k, J ≤ k → (∀ i x, J ≤ i → i < k → l[i]? = some x → spentR dead long now x = true) → topN dead long now l k = topN dead long now l J
  | 0, h, _ => by obtain rfl : J = 0 := by omega
                  rfl
  | k + 1, h, hall => by
    rcases Nat.lt_or_ge J (k + 1) with h1 | h1
    · have ih := topN_skip k (by omega) (fun i x h2 h3 hx => hall i x h2 (by omega) hx)
      rw [← ih]
      cases hx : l[k]? with
      | none => simp [topN, hx]
      | some x => simp [topN, hx, hall k x (by omega) (by omega) hx]
    · obtain rfl : J = k + 1 := by omega
      rfl
theorem topJ_of {dead : List Int} {long now : Int} {l : List Re} {J : Nat} (hJ : J ≤ l.length) (hall : ∀ i x, J ≤ i → l[i]? = some x → spentR dead long now x = true) (hlast : J = 0 ∨ ∃ x, l[J - 1]? = some x ∧ spentR dead long now x = false) : topJ l dead long now = J := by
  unfold topJ
  rw [topN_skip l.length hJ (fun i x h _ hx => hall i x h hx)]
  rcases hlast with rfl | ⟨x, hx, hp⟩
  · rfl
  · cases J with
    | zero => rfl
    | succ j =>
      rw [Nat.add_sub_cancel] at hx
      simp [topN, hx, hp]
theorem Recs.take1 {α : Type} {enc : α → List Value} {k : Nat} (hk : ∀ x, (enc x).length = k) {w : World} {B n c : Nat} {A : Option Addr} {xs : List α} (h : Recs enc k w B A n xs) (hc : c ≤ n) : Recs enc k w B A c (xs.take c) := by
  have hl := h.1
  refine ⟨by rw [List.length_take]; omega, by rw [flatMap_len hk, List.length_take, Nat.min_eq_left (by omega)], fun h0 hk0 => ?_⟩
  obtain ⟨b, off, e, hb, hcell⟩ := h.2.2 (by omega) hk0
  refine ⟨b, off, e, hb, fun j u hu => hcell j u ?_⟩
  have hp : xs.flatMap enc = (xs.take c).flatMap enc ++ (xs.drop c).flatMap enc := by rw [← List.flatMap_append, List.take_append_drop]
  rw [hp, List.getElem?_append_left (List.getElem?_eq_some_iff.1 hu).1]
  exact hu
theorem topO_snoc {l : List Re} {k : Nat} {x : Re} (hx : l[k]? = some x) : topO l k = topO l (k + 1) ++ [x.1] := by
  unfold topO
  obtain ⟨h, rfl⟩ := List.getElem?_eq_some_iff.1 hx
  rw [List.drop_eq_getElem_cons h, List.reverse_cons, List.map_append]
  rfl
theorem topO_end (l : List Re) {n : Nat} (h : l.length = n) : topO l n = [] := by unfold topO; rw [List.drop_eq_nil_of_le (by omega)]; rfl
set_option maxRecDepth 100000 in
set_option maxHeartbeats 2000000 in
theorem rTop_any (A : Option Addr) (n c : Nat) (l : List Re) (long now : Int) (As : Option Addr) (ns cs : Nat) (dead : List Int) (w : World) (hl : Res w w.heap.size A n l) (hn : n ≤ 1000) (hnc : n ≤ c) (hs : Ints w w.heap.size As ns dead) (hns : ns ≤ 1000) :
    Calls Try.prog 27 #[.slice A n c, .int .i64 long, .int .i64 now, .slice As ns cs] w fun e w' => ∃ A1 c1 A2 c2, e = .returned (.tuple #[.int .i64 (topS l (topJ l dead long now)), .slice A1 (topJ l dead long now - 1) c1, .slice A2 (n - topJ l dead long now) c2, .bool (decide (0 < topJ l dead long now))]) ∧
      OwRe w' w.heap.size A1 (topJ l dead long now - 1) c1 (l.take (topJ l dead long now - 1)) ∧ OwI w' w.heap.size 3 A2 (n - topJ l dead long now) c2 (topO l (topJ l dead long now)) ∧ Below w.heap.size w w' := by
  have HL := Lib.hid hl.1
  have hn0 : IntKind.i64.wrap ((n : Int) - 1) = (n : Int) - 1 := IntWalk.i64_in _ (by omega)
  go_enter Try.func27, Try.ntmps27
  go_wp2_with fail
  clear hn0
  go_loopw [12, 13] (fun s12 s13 wr => ∃ (m : Nat) (A' : Option Addr) (c' : Nat), m ≤ n ∧ s13 = .int .i64 ((m : Int) - 1) ∧ s12 = .slice A' (n - m) c' ∧ OwI wr w.heap.size 3 A' (n - m) c' (topO l m) ∧ Hid (∀ i x, m ≤ i → l[i]? = some x → spentR dead long now x = true) ∧ Below w.heap.size w wr) (fun _ s13 _ => (intOf s13 + 1).toNat)
  case atStart => exact ⟨n, none, 0, Nat.le_refl _, rfl, by rw [Nat.sub_self], by rw [Nat.sub_self, topO_end l HL.out]; exact OwI.nil_ _ _ _ _, fun i x h1 h2 => (by have := (List.getElem?_eq_some_iff.1 h2).1; have := HL.out; omega), Below.refl _ _⟩
  case round =>
    obtain ⟨m, A1, c1, hm, rfl, rfl, ho, hall, hb⟩ := hrel
    by_cases hlt : 0 < m
    · obtain ⟨b, off, x, rfl, hbb, hx, hc1, hc2⟩ := Res.cells (hl.below hb) (i := m - 1) (by omega)
      have hcall := rSpent_any x long now As ns cs dead wr ((hs.below hb).more hb.size) hns
      have i1 : (1 : Int) ≤ (m : Int) := by omega
      have i2 : (0 : Int) ≤ (m : Int) - 1 := by omega
      have i3 : (m : Int) - 1 < (n : Int) := by omega
      have i4 : (m : Int) - 1 ≤ (c : Int) := by omega
      have i5 : ((m : Int) - 1).toNat = m - 1 := by omega
      have hto := topO_snoc hx.out
      rw [show m - 1 + 1 = m by omega] at hto
      have HTO := Lib.hid hto
      clear hto
      cases hp : spentR dead long now x
      · rw [hp] at hcall
        have hj : topJ l dead long now = m := topJ_of (by rw [HL.out]; omega) hall.out (.inr ⟨x, hx.out, hp⟩)
        have hsock : topS l m = x.1 := by unfold topS; rw [if_pos hlt, List.getD_eq_getElem?_getD, hx.out]; rfl
        have HJ := Lib.hid hj
        have HS := Lib.hid hsock
        clear hp hj hsock
        go_upto_region 7 with (go_at_call 45; refine hcall.mono ?_; rintro e w2 ⟨rfl, hb2⟩)
        replace hb := hb.trans (hb2.mono hb.size)
        obtain ⟨q0, q1⟩ : w2.cell? ⟨b, off + (m - 1) * 2, none⟩ = some (.int .i64 x.1) ∧ w2.cell? ⟨b, off + (m - 1) * 2 + 1, none⟩ = some (.int .i64 x.2) := ⟨(hb2.cell (p := ⟨b, off + (m - 1) * 2, none⟩) (block_lt_of_cell hc1)).trans hc1, (hb2.cell (p := ⟨b, off + (m - 1) * 2 + 1, none⟩) (block_lt_of_cell hc2)).trans hc2⟩
        replace ho := OwI.below ho hb2
        have hrA := ((Recs.take1 encRe_len (hl.below hb) (show m - 1 ≤ n by omega)).more hb.size).drew
        have hnil : OwRe w2.drew w.heap.size none 0 0 [] := OwR.nil_ _ _ _ _
        have hn1 : Hid (0 + (m - 1) ≤ 1000000) := by show _ ≤ _; omega
        have hz : Hid (0 + (m - 1) = m - 1) := Nat.zero_add _
        have lb : b < w2.heap.size := block_lt_of_cell q0
        have hsz : w.heap.size ≤ w2.heap.size := hb.size
        clear hcall hb2 hc1 hc2
        go_region_law ((refine step_appRe (by rfl) (.tmp 36) (.tmp 39) (by rfl) w.heap.size none 0 0 [] (by first | (go_simp; done) | rfl) hnil w2.heap.size (some ⟨b, off, none⟩) (m - 1) c (l.take (m - 1)) (by first | (go_simp; done) | rfl) hrA hn1.out hsz ?_; rw [hz.out]; intro A3 c3 w3 ho3 hg3 hr3; have hb3 : Below w2.heap.size w2 w3 := (Below.refl w2.heap.size w2).drew.grown hg3 (Nat.le_refl _) (by simp [rowOf]); have v0 := (hb3.cell (p := ⟨b, off + (m - 1) * 2, none⟩) lb).trans q0))
        all_goals
          replace ho := OwI.below ho hb3
          replace hb := hb.trans (hb3.mono hb.size)
          rw [List.nil_append] at ho3
          go_wp2_with fail
          exact bodyPost_ret (v := .tuple #[.int .i64 x.1, .slice A3 (m - 1) c3, .slice A1 (n - m) c1, .bool true]) (by simp [results, Try.results27, go_sem]) rfl ⟨A3, c3, A1, c1, by rw [HJ.out, HS.out, decide_eq_true hlt], by rw [HJ.out]; exact ho3, by rw [HJ.out]; exact ho, hb⟩
      · rw [hp] at hcall
        have HP := Lib.hid hp
        clear hp
        go_upto_region 8 with (go_at_call 45; refine hcall.mono ?_; rintro e w2 ⟨rfl, hb2⟩)
        replace hb := hb.trans (hb2.mono hb.size)
        obtain ⟨q0, q1⟩ : w2.cell? ⟨b, off + (m - 1) * 2, none⟩ = some (.int .i64 x.1) ∧ w2.cell? ⟨b, off + (m - 1) * 2 + 1, none⟩ = some (.int .i64 x.2) := ⟨(hb2.cell (p := ⟨b, off + (m - 1) * 2, none⟩) (block_lt_of_cell hc1)).trans hc1, (hb2.cell (p := ⟨b, off + (m - 1) * 2 + 1, none⟩) (block_lt_of_cell hc2)).trans hc2⟩
        replace ho := OwI.below ho hb2
        clear hcall hb2 hc1 hc2
        go_wp2_with (at_builtin; refine wpList_appI _ rfl (.tmp 42) (.tmp 48) rfl w.heap.size _ _ _ _ rfl (ho.alloc _) _ _ _ _ [x.1] rfl (Ints.at1_ _ _ _ _ (by first | omega | (simp; done) | (simp; omega))) (by omega) (by have := hb.size; simp; omega) ?_; intro A3 c3 w3 ho3 hg3 hr3)
        have hbw3 : Below w.heap.size w w3 := (hb.alloc hb.size _).grown hg3 (by have := hb.size; simp; omega) (fun g hg => (Ow.row ho g hg).1)
        rw [← HTO.out] at ho3
        clear hg3 hr3 q0 q1 ho hb
        go_wp2_with fail
        go_roundw
        case rel => exact ⟨m - 1, A3, c3, by omega, by congr 1; omega, by rw [show n - (m - 1) = n - m + 1 by omega], by rw [show n - (m - 1) = n - m + 1 by omega]; exact ho3, fun i y h1 h2 => (by
          rcases Nat.lt_or_ge i m with h3 | h3
          · obtain rfl : i = m - 1 := by omega
            have h4 := hx.out
            rw [h2] at h4
            injection h4 with h4
            rw [h4]
            exact HP.out
          · exact hall.out i y h3 h2), hbw3⟩
        case measure => simp [intOf]; omega
    · have hm0 : m = 0 := by omega
      have hj : topJ l dead long now = m := topJ_of (by rw [HL.out]; exact hm) hall.out (.inl hm0)
      have HM := Lib.hid hm0
      have HJ := Lib.hid hj
      have q1 : decide ((0 : Int) ≤ (m : Int) - 1) = false := by simp; omega
      have q2 : decide ((1 : Int) ≤ (m : Int)) = false := by simp; omega
      clear hj hm0 hlt
      go_wp2_with fail
      exact bodyPost_ret (v := .tuple #[.int .i64 (-1), .slice none 0 0, .slice A1 (n - m) c1, .bool false]) (by simp [results, Try.results27, go_sem]) rfl ⟨none, 0, A1, c1, by rw [HJ.out, HM.out]; rfl, by rw [HJ.out, HM.out]; exact OwR.nil_ _ _ _ _, by rw [HJ.out]; exact ho, hb⟩
end Go.Proofs.Ythjanhfjehccoaa
