/-
  Points of the same values, at whatever addresses, are the same. Conditions: rows of at most 100000.
-/
import Derived.Test.YthjanhfjehccoaaPoolWays
import Derived.Test.YthjanhfjehccoaaLineRef
import Derived.Test.YthjanhfjehccoaaRestEq
namespace Go.Proofs.Ythjanhfjehccoaa
set_option linter.unusedVariables false
set_option linter.unusedSimpArgs false
open Go.RowKit

theorem Rps.cells {w : World} {B : Nat} {A : Option Addr} {n : Nat} {xs : List Rpl} (h : Rps w B A n xs) {i : Nat} (hi : i < n) :
    ∃ b off x, A = some ⟨b, off, none⟩ ∧ b < B ∧ Hid (xs[i]? = some x) ∧ w.cell? ⟨b, off + i * 3, none⟩ = some (.int .i64 x.1) ∧ w.cell? ⟨b, off + i * 3 + 1, none⟩ = some (.int .i64 x.2.1) ∧ w.cell? ⟨b, off + i * 3 + 2, none⟩ = some (.int .i64 x.2.2) := by
  obtain ⟨b, off, x, e, hb, hx, hc⟩ := Recs.at_ encRp_len (by omega) h hi
  exact ⟨b, off, x, e, hb, hx, hc 0 _ rfl, (by have := hc 1 _ rfl; rwa [← Nat.add_assoc] at this), (by have := hc 2 _ rfl; rwa [← Nat.add_assoc] at this)⟩
def valRp (x : Rpl) : Value := .agg #[.int .i64 x.1, .int .i64 x.2.1, .int .i64 x.2.2]
theorem eqRp (x y : Rpl) (w : World) : (Op.equalIn 10000 65 (valRp x) (valRp y)).run Try.prog w = .ok (decide (x = y)) w := by
  obtain ⟨a, b, c⟩ := x
  obtain ⟨a', b', c'⟩ := y
  have u3 := Try.underlying3
  have u4 := Try.underlying32
  have hS : Try.prog.underlying 65 = some (.struct (Try.prog.fieldsOf 65)) := by kernel_rfl
  have hp : Try.prog.stoodInHeld 65 = false := by kernel_rfl
  unfold valRp
  rw [show (10000 : Nat) = 9999 + 1 from rfl, run_equalIn_agg w 9999 65 _ _ hS hp]
  simp only [Program.fieldsOf, Try.underlying65]
  go_simp
  by_cases h1 : a = a' <;> by_cases h2 : b = b' <;> by_cases h3 : c = c' <;> simp [h1, h2, h3]
set_option maxHeartbeats 800000 in
theorem rReplies29_any (A1 A2 : Option Addr) (n1 n2 c1 c2 B1 B2 : Nat) (a b : List Rpl) (w : World) (ha : Rps w B1 A1 n1 a) (hb : Rps w B2 A2 n2 b) (hn1 : n1 ≤ 100000) (hn2 : n2 ≤ 100000) :
    Calls Try.prog 56 #[.slice A1 n1 c1, .slice A2 n2 c2] w fun e w' => e = .returned (.bool (decide (a = b))) ∧ Below w.heap.size w w' := by
  have HA := Lib.hid ha.1
  have HB := Lib.hid hb.1
  by_cases hne : n1 = n2
  · subst hne
    go_enter Try.func56, Try.ntmps56
    go_wp2
    go_loopw [5] (fun s5 wr => ∃ (k : Nat), k ≤ n1 ∧ s5 = .int .i64 k ∧ Hid (a.take k = b.take k) ∧ ∃ nq, wr = w.drewN nq) (fun s5 _ => n1 - (intOf s5).toNat)
    case atStart => exact ⟨0, Nat.zero_le _, rfl, rfl, 0, rfl⟩
    case round =>
      obtain ⟨k, hk, rfl, hab, nq, rfl⟩ := hrel
      by_cases hlt : k < n1
      · obtain ⟨b1, o1, x, rfl, _, hx, hc1, hc2, hc3⟩ := Rps.cells ha hlt
        obtain ⟨b2, o2, y, rfl, _, hy, hd1, hd2, hd3⟩ := Rps.cells hb hlt
        by_cases hxy : x = y
        · have hs : Hid (a.take (k + 1) = b.take (k + 1)) := by show _ = _; rw [take_succ_of hx.out, take_succ_of hy.out, hab.out, hxy]
          have hE := fun wx => eqRp x y wx
          rw [decide_eq_true hxy] at hE
          unfold valRp at hE
          have HX := Lib.hid hxy
          clear hxy
          go_wp2
          go_quiet (fail)
          go_wp2
          go_roundw
          case rel => exact ⟨k + 1, by omega, by go_num, hs, _, rfl⟩
          case measure => simp [intOf]; omega
        · have hs : decide (a = b) = false := by
            simp only [decide_eq_false_iff_not]
            intro e
            have h1 := hx.out
            rw [e, hy.out] at h1
            injection h1 with h1
            exact hxy h1.symm
          have HS := Lib.hid hs
          have hE := fun wx => eqRp x y wx
          rw [decide_eq_false hxy] at hE
          unfold valRp at hE
          have HX := Lib.hid hxy
          clear hxy hs
          go_wp2
          go_quiet (fail)
          go_wp2
          go_ret
          exact ⟨ret_bool HS.out.symm, ⟨rfl, rfl, rfl, Nat.le_refl _, fun _ _ => rfl⟩⟩
      · have hs : decide (a = b) = true := by
          have h := hab.out
          rw [List.take_of_length_le (by rw [HA.out]; omega), List.take_of_length_le (by rw [HB.out]; omega)] at h
          simp [h]
        have HS := Lib.hid hs
        clear hs
        go_wp2
        go_ret
        exact ⟨ret_bool HS.out.symm, ⟨rfl, rfl, rfl, Nat.le_refl _, fun _ _ => rfl⟩⟩
  · have hd : ((n1 : Int) != (n2 : Int)) = true := by simp; omega
    have hs : decide (a = b) = false := by
      simp only [decide_eq_false_iff_not]
      intro e
      exact hne (by rw [← HA.out, ← HB.out, e])
    have HS := Lib.hid hs
    have HN := Lib.hid hne
    clear hs hne
    go_enter Try.func56, Try.ntmps56
    go_wp2
    go_ret
    exact ⟨ret_bool HS.out.symm, Below.refl _ _⟩
set_option maxHeartbeats 800000 in
theorem rRests30_any (A1 A2 : Option Addr) (n1 n2 c1 c2 B1 B2 : Nat) (a b : List Re) (w : World) (ha : Res w B1 A1 n1 a) (hb : Res w B2 A2 n2 b) (hn1 : n1 ≤ 100000) (hn2 : n2 ≤ 100000) :
    Calls Try.prog 40 #[.slice A1 n1 c1, .slice A2 n2 c2] w fun e w' => e = .returned (.bool (decide (a = b))) ∧ Below w.heap.size w w' := by
  have HA := Lib.hid ha.1
  have HB := Lib.hid hb.1
  by_cases hne : n1 = n2
  · subst hne
    go_enter Try.func40, Try.ntmps40
    go_wp2
    go_loopw [5] (fun s5 wr => ∃ (k : Nat), k ≤ n1 ∧ s5 = .int .i64 k ∧ Hid (a.take k = b.take k) ∧ ∃ nq, wr = w.drewN nq) (fun s5 _ => n1 - (intOf s5).toNat)
    case atStart => exact ⟨0, Nat.zero_le _, rfl, rfl, 0, rfl⟩
    case round =>
      obtain ⟨k, hk, rfl, hab, nq, rfl⟩ := hrel
      by_cases hlt : k < n1
      · obtain ⟨b1, o1, x, rfl, _, hx, hc1, hc2⟩ := Res.cells ha hlt
        obtain ⟨b2, o2, y, rfl, _, hy, hd1, hd2⟩ := Res.cells hb hlt
        by_cases hxy : x = y
        · have hs : Hid (a.take (k + 1) = b.take (k + 1)) := by show _ = _; rw [take_succ_of hx.out, take_succ_of hy.out, hab.out, hxy]
          have hE := fun wx => eqRe x y wx
          rw [decide_eq_true hxy] at hE
          unfold valRe at hE
          have HX := Lib.hid hxy
          clear hxy
          go_wp2
          go_quiet (fail)
          go_wp2
          go_roundw
          case rel => exact ⟨k + 1, by omega, by go_num, hs, _, rfl⟩
          case measure => simp [intOf]; omega
        · have hs : decide (a = b) = false := by
            simp only [decide_eq_false_iff_not]
            intro e
            have h1 := hx.out
            rw [e, hy.out] at h1
            injection h1 with h1
            exact hxy h1.symm
          have HS := Lib.hid hs
          have hE := fun wx => eqRe x y wx
          rw [decide_eq_false hxy] at hE
          unfold valRe at hE
          have HX := Lib.hid hxy
          clear hxy hs
          go_wp2
          go_quiet (fail)
          go_wp2
          go_ret
          exact ⟨ret_bool HS.out.symm, ⟨rfl, rfl, rfl, Nat.le_refl _, fun _ _ => rfl⟩⟩
      · have hs : decide (a = b) = true := by
          have h := hab.out
          rw [List.take_of_length_le (by rw [HA.out]; omega), List.take_of_length_le (by rw [HB.out]; omega)] at h
          simp [h]
        have HS := Lib.hid hs
        clear hs
        go_wp2
        go_ret
        exact ⟨ret_bool HS.out.symm, ⟨rfl, rfl, rfl, Nat.le_refl _, fun _ _ => rfl⟩⟩
  · have hd : ((n1 : Int) != (n2 : Int)) = true := by simp; omega
    have hs : decide (a = b) = false := by
      simp only [decide_eq_false_iff_not]
      intro e
      exact hne (by rw [← HA.out, ← HB.out, e])
    have HS := Lib.hid hs
    have HN := Lib.hid hne
    clear hs hne
    go_enter Try.func40, Try.ntmps40
    go_wp2
    go_ret
    exact ⟨ret_bool HS.out.symm, Below.refl _ _⟩
/-- Rows of a point, in memory. -/
structure PtRd (p : Pnt) (a : PlA) (w : World) : Prop where
  dead : Ints w w.heap.size a.dA p.dead.length p.dead
  rep : Rps w w.heap.size a.rA p.rep.length p.rep
  sh : Ints w w.heap.size a.sA p.shut.length p.shut
theorem PtRd.below {p : Pnt} {a : PlA} {w w' : World} (h : PtRd p a w) (hb : Below w.heap.size w w') : PtRd p a w' :=
  ⟨(h.dead.below hb).more hb.size, (Recs.below h.rep hb).more hb.size, (h.sh.below hb).more hb.size⟩
structure PtFew (p : Pnt) : Prop where
  dead : p.dead.length ≤ 100000
  rep : p.rep.length ≤ 100000
  sh : p.shut.length ≤ 100000
set_option maxRecDepth 100000 in
set_option maxHeartbeats 8000000 in
theorem one_any (p : Pnt) (a b : PlA) (w : World) (ha : PtRd p a w) (hb : PtRd p b w) (hf : PtFew p) :
    Calls Try.prog 42 #[.agg (ptCells p a), .agg (ptCells p b)] w fun e w' => e = .returned (.bool true) ∧ Below w.heap.size w w' := by
  go_enter Try.func42, Try.ntmps42
  go_upto_region 1 with fail
  have r1 := heap_alloc_new w (.cells (ptCells p a) 38)
  have r2 := heap_alloc_new (w.alloc (.cells (ptCells p a) 38)) (.cells (ptCells p b) 38)
  have b1 := Below.new_ w (.cells (ptCells p a) 38)
  have b2 := Below.new_ (w.alloc (.cells (ptCells p a) 38)) (.cells (ptCells p b) 38)
  have e1 : (w.alloc (.cells (ptCells p a) 38)).heap.size = w.heap.size + 1 := by simp
  have r1' := (b2.block w.heap.size (by omega)).trans r1
  rw [e1] at r2
  have hB : Below w.heap.size w ((w.alloc (.cells (ptCells p a) 38)).alloc (.cells (ptCells p b) 38)) := b1.trans (b2.mono (by omega))
  clear r1 b1 b2 e1
  obtain ⟨W, hW⟩ : ∃ W, (w.alloc (.cells (ptCells p a) 38)).alloc (.cells (ptCells p b) 38) = W := ⟨_, rfl⟩
  rw [hW] at r1' r2 hB ⊢
  clear hW
  have c0 : W.cell? ⟨w.heap.size, 0, none⟩ = some (.int .i8 p.kind) := by rw [cell_of_row _ _ 0 _ _ _ r1']; rfl
  have c1 : W.cell? ⟨w.heap.size, 1, none⟩ = some (.int .i64 p.at_) := by rw [cell_of_row _ _ 1 _ _ _ r1']; rfl
  have c2 : W.cell? ⟨w.heap.size, 2, none⟩ = some (.int .i64 p.clock) := by rw [cell_of_row _ _ 2 _ _ _ r1']; rfl
  have c3 : W.cell? ⟨w.heap.size, 3, none⟩ = some (.int .i64 p.owner) := by rw [cell_of_row _ _ 3 _ _ _ r1']; rfl
  have c4 : W.cell? ⟨w.heap.size, 4, none⟩ = some (.int .i64 p.caller) := by rw [cell_of_row _ _ 4 _ _ _ r1']; rfl
  have c5 : W.cell? ⟨w.heap.size, 5, none⟩ = some (.int .i64 p.sock) := by rw [cell_of_row _ _ 5 _ _ _ r1']; rfl
  have c6 : W.cell? ⟨w.heap.size, 6, none⟩ = some (.bool p.keep) := by rw [cell_of_row _ _ 6 _ _ _ r1']; rfl
  have c7 : W.cell? ⟨w.heap.size, 7, none⟩ = some (.int .i64 p.e) := by rw [cell_of_row _ _ 7 _ _ _ r1']; rfl
  have c8 : W.cell? ⟨w.heap.size, 8, none⟩ = some (.string p.bad) := by rw [cell_of_row _ _ 8 _ _ _ r1']; rfl
  have c9 : W.cell? ⟨w.heap.size, 9, none⟩ = some (.slice a.dA p.dead.length a.dc) := by rw [cell_of_row _ _ 9 _ _ _ r1']; rfl
  have c10 : W.cell? ⟨w.heap.size, 10, none⟩ = some (.slice a.rA p.rep.length a.rc) := by rw [cell_of_row _ _ 10 _ _ _ r1']; rfl
  have c11 : W.cell? ⟨w.heap.size, 11, none⟩ = some (.slice a.sA p.shut.length a.sc) := by rw [cell_of_row _ _ 11 _ _ _ r1']; rfl
  have c12 : W.cell? ⟨w.heap.size, 12, none⟩ = some (.bool p.start) := by rw [cell_of_row _ _ 12 _ _ _ r1']; rfl
  have c13 : W.cell? ⟨w.heap.size, 13, none⟩ = some (.bool p.cut) := by rw [cell_of_row _ _ 13 _ _ _ r1']; rfl
  have d0 : W.cell? ⟨w.heap.size + 1, 0, none⟩ = some (.int .i8 p.kind) := by rw [cell_of_row _ _ 0 _ _ _ r2]; rfl
  have d1 : W.cell? ⟨w.heap.size + 1, 1, none⟩ = some (.int .i64 p.at_) := by rw [cell_of_row _ _ 1 _ _ _ r2]; rfl
  have d2 : W.cell? ⟨w.heap.size + 1, 2, none⟩ = some (.int .i64 p.clock) := by rw [cell_of_row _ _ 2 _ _ _ r2]; rfl
  have d3 : W.cell? ⟨w.heap.size + 1, 3, none⟩ = some (.int .i64 p.owner) := by rw [cell_of_row _ _ 3 _ _ _ r2]; rfl
  have d4 : W.cell? ⟨w.heap.size + 1, 4, none⟩ = some (.int .i64 p.caller) := by rw [cell_of_row _ _ 4 _ _ _ r2]; rfl
  have d5 : W.cell? ⟨w.heap.size + 1, 5, none⟩ = some (.int .i64 p.sock) := by rw [cell_of_row _ _ 5 _ _ _ r2]; rfl
  have d6 : W.cell? ⟨w.heap.size + 1, 6, none⟩ = some (.bool p.keep) := by rw [cell_of_row _ _ 6 _ _ _ r2]; rfl
  have d7 : W.cell? ⟨w.heap.size + 1, 7, none⟩ = some (.int .i64 p.e) := by rw [cell_of_row _ _ 7 _ _ _ r2]; rfl
  have d8 : W.cell? ⟨w.heap.size + 1, 8, none⟩ = some (.string p.bad) := by rw [cell_of_row _ _ 8 _ _ _ r2]; rfl
  have d9 : W.cell? ⟨w.heap.size + 1, 9, none⟩ = some (.slice b.dA p.dead.length b.dc) := by rw [cell_of_row _ _ 9 _ _ _ r2]; rfl
  have d10 : W.cell? ⟨w.heap.size + 1, 10, none⟩ = some (.slice b.rA p.rep.length b.rc) := by rw [cell_of_row _ _ 10 _ _ _ r2]; rfl
  have d11 : W.cell? ⟨w.heap.size + 1, 11, none⟩ = some (.slice b.sA p.shut.length b.sc) := by rw [cell_of_row _ _ 11 _ _ _ r2]; rfl
  have d12 : W.cell? ⟨w.heap.size + 1, 12, none⟩ = some (.bool p.start) := by rw [cell_of_row _ _ 12 _ _ _ r2]; rfl
  have d13 : W.cell? ⟨w.heap.size + 1, 13, none⟩ = some (.bool p.cut) := by rw [cell_of_row _ _ 13 _ _ _ r2]; rfl
  have ha1 := ha.below hB
  have hb1 := hb.below hB
  have hs0 : w.heap.size + 1 < W.heap.size := (Array.getElem?_eq_some_iff.1 r2).1
  go_wp2_with fail
  refine (rSame4_any a.dA b.dA p.dead.length p.dead.length a.dc b.dc _ _ p.dead p.dead W ha1.dead hb1.dead hf.dead hf.dead).mono ?_
  rintro e W1 ⟨rfl, hB1⟩
  simp only [sameB, decide_true]
  have c11 : W1.cell? ⟨w.heap.size, 11, none⟩ = some (.slice a.sA p.shut.length a.sc) := by rw [cell_of_row _ _ 11 _ _ _ ((hB1.block _ (by omega)).trans r1')]; rfl
  have d11 : W1.cell? ⟨w.heap.size + 1, 11, none⟩ = some (.slice b.sA p.shut.length b.sc) := by rw [cell_of_row _ _ 11 _ _ _ ((hB1.block _ (by omega)).trans r2)]; rfl
  have hs1 := hB1.size
  have ha2 := ha1.below hB1
  have hb2 := hb1.below hB1
  have hB' := hB.trans (hB1.mono (by omega))
  clear ha1 hb1 c0 c1 c2 c3 c4 c5 c6 c7 c8 c9 c10 c12 c13 d0 d1 d2 d3 d4 d5 d6 d7 d8 d9 d10 d12 d13
  go_wp2_with fail
  refine (rSame4_any a.sA b.sA p.shut.length p.shut.length a.sc b.sc _ _ p.shut p.shut W1 ha2.sh hb2.sh hf.sh hf.sh).mono ?_
  rintro e W2 ⟨rfl, hB2⟩
  simp only [sameB, decide_true]
  have c10 : W2.cell? ⟨w.heap.size, 10, none⟩ = some (.slice a.rA p.rep.length a.rc) := by rw [cell_of_row _ _ 10 _ _ _ ((hB2.block _ (by omega)).trans ((hB1.block _ (by omega)).trans r1'))]; rfl
  have d10 : W2.cell? ⟨w.heap.size + 1, 10, none⟩ = some (.slice b.rA p.rep.length b.rc) := by rw [cell_of_row _ _ 10 _ _ _ ((hB2.block _ (by omega)).trans ((hB1.block _ (by omega)).trans r2))]; rfl
  have ha3 := ha2.below hB2
  have hb3 := hb2.below hB2
  have hB3 := hB'.trans (hB2.mono (by omega))
  clear ha2 hb2 c11 d11
  go_wp2_with fail
  refine (rReplies29_any a.rA b.rA p.rep.length p.rep.length a.rc b.rc _ _ p.rep p.rep W2 ha3.rep hb3.rep hf.rep hf.rep).mono ?_
  rintro e W3 ⟨rfl, hB4⟩
  simp only [decide_true]
  go_wp2_with fail
  go_ret
  exact ⟨rfl, hB3.trans (hB4.mono (by have := hB2.size; omega))⟩
/-- A slice of one point. -/
def Pt1 (p : Pnt) (a : PlA) (w : World) (b o : Nat) : Prop := w.rangeAt b o (ptCells p a).toList ∧ b < w.heap.size
theorem Pt1.below {p : Pnt} {a : PlA} {w w' : World} {b o : Nat} (h : Pt1 p a w b o) (hb : Below w.heap.size w w') : Pt1 p a w' b o := ⟨rangeAt_off h.1 (hb.block _ h.2), Nat.lt_of_lt_of_le h.2 hb.size⟩
theorem Pt1.new_ (p : Pnt) (a : PlA) (w : World) : Pt1 p a (w.alloc (.cells (ptCells p a) 38)) w.heap.size 0 := ⟨rangeAt_row (heap_alloc_new w _), by simp⟩
set_option maxRecDepth 100000 in
set_option maxHeartbeats 8000000 in
theorem ptSame_any (p : Pnt) (a b : PlA) (b1 o1 c1 b2 o2 c2 : Nat) (w : World) (ha : PtRd p a w) (hb : PtRd p b w) (hf : PtFew p) (h1 : Pt1 p a w b1 o1) (h2 : Pt1 p b w b2 o2) :
    Calls Try.prog 18 #[.slice (some ⟨b1, o1, none⟩) 1 c1, .slice (some ⟨b2, o2, none⟩) 1 c2] w fun e w' => e = .returned (.bool true) ∧ Below w.heap.size w w' := by
  go_enter Try.func18, Try.ntmps18
  go_wp2_with fail
  go_loopw [5] (fun s5 wr => ∃ (k : Nat), k ≤ 1 ∧ s5 = .int .i64 k ∧ Below w.heap.size w wr) (fun s5 _ => 1 - (intOf s5).toNat)
  case atStart => exact ⟨0, Nat.zero_le _, rfl, Below.refl _ _⟩
  case round =>
    obtain ⟨k, hk, rfl, hbr⟩ := hrel
    by_cases hk0 : k = 0
    · subst hk0
      have hS0 : Below w.heap.size w wr.drew := hbr.drew
      have ha' := ha.below hbr
      have hb' := hb.below hbr
      go_upto_region 6 with fail
      refine wp_region_held_drew (S := (fun wx => Below w.heap.size w wx)) (by kernel_rfl) ?_ (fun hHeld => ?_)
      · (try dsimp only); first | done | ((first | exact hS | exact hS0 | skip))
      first
       | (refine wpAnyH_take (i := 0) (v := ?_) rfl (by kernel_rfl) (by kernel_rfl) (by kernel_rfl) (fun _ _ _ h => h) (Or.inl ⟨by rfl, ?_⟩) hHeld ?_; rotate_left; (intro wq hSw; (try dsimp only at hSw); go_simp; done))
       | (refine wpAnyH_take (i := 0) (v := ?_) rfl (by kernel_rfl) (by kernel_rfl) (by kernel_rfl) (fun _ _ _ h => h) (Or.inl ⟨by rfl, ?_⟩) hHeld ?_; rotate_left; (intro wq hSw; (try dsimp only at hSw); go_simp; with_reducible rfl))
       | refine wpAnyH_take (i := 0) (v := undef) rfl (by kernel_rfl) (by kernel_rfl) (by kernel_rfl) (fun _ _ _ h => h) (Or.inr ⟨by rfl, rfl⟩) hHeld ?_
      try simp only [Act.put, List.getElem_toArray, List.getElem_cons_succ, List.getElem_cons_zero, List.setIfInBounds_toArray, List.set_cons_zero, List.set_cons_succ]
      first
       | (refine wpAnyH_take (i := 1) (v := ?_) rfl (by kernel_rfl) (by kernel_rfl) (by kernel_rfl) (fun _ _ _ h => h) (Or.inl ⟨by rfl, ?_⟩) hHeld ?_; rotate_left; (intro wq hSw; (try dsimp only at hSw); go_simp; done))
       | (refine wpAnyH_take (i := 1) (v := ?_) rfl (by kernel_rfl) (by kernel_rfl) (by kernel_rfl) (fun _ _ _ h => h) (Or.inl ⟨by rfl, ?_⟩) hHeld ?_; rotate_left; (intro wq hSw; (try dsimp only at hSw); go_simp; with_reducible rfl))
       | refine wpAnyH_take (i := 1) (v := undef) rfl (by kernel_rfl) (by kernel_rfl) (by kernel_rfl) (fun _ _ _ h => h) (Or.inr ⟨by rfl, rfl⟩) hHeld ?_
      try simp only [Act.put, List.getElem_toArray, List.getElem_cons_succ, List.getElem_cons_zero, List.setIfInBounds_toArray, List.set_cons_zero, List.set_cons_succ]
      first
       | (refine wpAnyH_take (i := 4) (v := ?_) rfl (by kernel_rfl) (by kernel_rfl) (by kernel_rfl) (fun _ _ _ h => h) (Or.inl ⟨by rfl, ?_⟩) hHeld ?_; rotate_left; (intro wq hSw; (try dsimp only at hSw); go_simp; done))
       | (refine wpAnyH_take (i := 4) (v := ?_) rfl (by kernel_rfl) (by kernel_rfl) (by kernel_rfl) (fun _ _ _ h => h) (Or.inl ⟨by rfl, ?_⟩) hHeld ?_; rotate_left; (intro wq hSw; (try dsimp only at hSw); go_simp; with_reducible rfl))
       | refine wpAnyH_take (i := 4) (v := undef) rfl (by kernel_rfl) (by kernel_rfl) (by kernel_rfl) (fun _ _ _ h => h) (Or.inr ⟨by rfl, rfl⟩) hHeld ?_
      try simp only [Act.put, List.getElem_toArray, List.getElem_cons_succ, List.getElem_cons_zero, List.setIfInBounds_toArray, List.set_cons_zero, List.set_cons_succ]
      first
       | (refine wpAnyH_take (i := 5) (v := ?_) rfl (by kernel_rfl) (by kernel_rfl) (by kernel_rfl) (fun _ _ _ h => h) (Or.inl ⟨by rfl, ?_⟩) hHeld ?_; rotate_left; (intro wq hSw; (try dsimp only at hSw); go_simp; done))
       | (refine wpAnyH_take (i := 5) (v := ?_) rfl (by kernel_rfl) (by kernel_rfl) (by kernel_rfl) (fun _ _ _ h => h) (Or.inl ⟨by rfl, ?_⟩) hHeld ?_; rotate_left; (intro wq hSw; (try dsimp only at hSw); go_simp; with_reducible rfl))
       | refine wpAnyH_take (i := 5) (v := undef) rfl (by kernel_rfl) (by kernel_rfl) (by kernel_rfl) (fun _ _ _ h => h) (Or.inr ⟨by rfl, rfl⟩) hHeld ?_
      try simp only [Act.put, List.getElem_toArray, List.getElem_cons_succ, List.getElem_cons_zero, List.setIfInBounds_toArray, List.set_cons_zero, List.set_cons_succ]
      first
       | (refine wpAnyH_take (i := 2) (v := ?_) rfl (by kernel_rfl) (by kernel_rfl) (by kernel_rfl) (fun _ _ _ h => h) (Or.inl ⟨by rfl, ?_⟩) hHeld ?_; rotate_left; (intro wq hSw; (try dsimp only at hSw); go_simp; done))
       | (refine wpAnyH_take (i := 2) (v := ?_) rfl (by kernel_rfl) (by kernel_rfl) (by kernel_rfl) (fun _ _ _ h => h) (Or.inl ⟨by rfl, ?_⟩) hHeld ?_; rotate_left; (intro wq hSw; (try dsimp only at hSw); go_simp; with_reducible rfl))
       | refine wpAnyH_take (i := 2) (v := undef) rfl (by kernel_rfl) (by kernel_rfl) (by kernel_rfl) (fun _ _ _ h => h) (Or.inr ⟨by rfl, rfl⟩) hHeld ?_
      try simp only [Act.put, List.getElem_toArray, List.getElem_cons_succ, List.getElem_cons_zero, List.setIfInBounds_toArray, List.set_cons_zero, List.set_cons_succ]
      first
       | (refine wpAnyH_take (i := 6) (v := ?_) rfl (by kernel_rfl) (by kernel_rfl) (by kernel_rfl) (fun _ _ _ h => h) (Or.inl ⟨by rfl, ?_⟩) hHeld ?_; rotate_left; (intro wq hSw; (try dsimp only at hSw); go_simp; done))
       | (refine wpAnyH_take (i := 6) (v := ?_) rfl (by kernel_rfl) (by kernel_rfl) (by kernel_rfl) (fun _ _ _ h => h) (Or.inl ⟨by rfl, ?_⟩) hHeld ?_; rotate_left; (intro wq hSw; (try dsimp only at hSw); go_simp; with_reducible rfl))
       | refine wpAnyH_take (i := 6) (v := undef) rfl (by kernel_rfl) (by kernel_rfl) (by kernel_rfl) (fun _ _ _ h => h) (Or.inr ⟨by rfl, rfl⟩) hHeld ?_
      try simp only [Act.put, List.getElem_toArray, List.getElem_cons_succ, List.getElem_cons_zero, List.setIfInBounds_toArray, List.set_cons_zero, List.set_cons_succ]
      refine wpAnyH_take (i := 3) (v := (.agg (ptCells p a))) rfl (by kernel_rfl) (by kernel_rfl) (by kernel_rfl) (fun _ _ _ h => h) (Or.inl ⟨by rfl, ?_⟩) hHeld ?_
      · intro wq hSw; (try dsimp only at hSw); exact exec_loadMid 38 _ rfl b1 o1 rfl (ptCells p a).toList _ (rangeAt_off h1.1 (hSw.block _ h1.2)) Try.underlying38 rfl (by kernel_rfl)
      try simp only [Act.put, List.getElem_toArray, List.getElem_cons_succ, List.getElem_cons_zero, List.setIfInBounds_toArray, List.set_cons_zero, List.set_cons_succ]
      refine wpAnyH_take (i := 7) (v := (.agg (ptCells p b))) rfl (by kernel_rfl) (by kernel_rfl) (by kernel_rfl) (fun _ _ _ h => h) (Or.inl ⟨by rfl, ?_⟩) hHeld ?_
      · intro wq hSw; (try dsimp only at hSw); exact exec_loadMid 38 _ rfl b2 o2 rfl (ptCells p b).toList _ (rangeAt_off h2.1 (hSw.block _ h2.2)) Try.underlying38 rfl (by kernel_rfl)
      try simp only [Act.put, List.getElem_toArray, List.getElem_cons_succ, List.getElem_cons_zero, List.setIfInBounds_toArray, List.set_cons_zero, List.set_cons_succ]
      refine wpAnyH_ready (rs := [8]) (by kernel_rfl) (by simp) ?_
      refine AllReadyH.cons rfl (fun K hK => ?_) AllReadyH.nil
      go_simp; go_at_call 42; refine (one_any p a b _ (ha.below hHeld) (hb.below hHeld) hf).mono ?_; rintro e wx ⟨rfl, hbx⟩; have hS := hHeld.trans (hbx.mono hHeld.size); clear hbx; try go_wp2_with fail
      refine hK.out _ _ ?_ (fun hHeld => ?_)
      · (try dsimp only); first | done | ((first | exact hS | exact hS0 | skip))
      clear hK K
      try simp only [Act.put, List.getElem_toArray, List.getElem_cons_succ, List.getElem_cons_zero, List.setIfInBounds_toArray, List.set_cons_zero, List.set_cons_succ]
      first
       | (refine wpAnyH_take (i := 9) (v := ?_) rfl (by kernel_rfl) (by kernel_rfl) (by kernel_rfl) (fun _ _ _ h => h) (Or.inl ⟨by rfl, ?_⟩) hHeld ?_; rotate_left; (intro wq hSw; (try dsimp only at hSw); go_simp; done))
       | (refine wpAnyH_take (i := 9) (v := ?_) rfl (by kernel_rfl) (by kernel_rfl) (by kernel_rfl) (fun _ _ _ h => h) (Or.inl ⟨by rfl, ?_⟩) hHeld ?_; rotate_left; (intro wq hSw; (try dsimp only at hSw); go_simp; with_reducible rfl))
       | refine wpAnyH_take (i := 9) (v := undef) rfl (by kernel_rfl) (by kernel_rfl) (by kernel_rfl) (fun _ _ _ h => h) (Or.inr ⟨by rfl, rfl⟩) hHeld ?_
      try simp only [Act.put, List.getElem_toArray, List.getElem_cons_succ, List.getElem_cons_zero, List.setIfInBounds_toArray, List.set_cons_zero, List.set_cons_succ]
      refine wpAnyH_done (by kernel_rfl) ?_ _
      (go_wp2_with fail; go_roundw; (case rel => exact ⟨1, Nat.le_refl _, rfl, hHeld⟩); (case measure => simp [intOf]))
    · obtain rfl : k = 1 := by omega
      go_wp2_with fail
      go_ret
      exact ⟨rfl, hbr⟩
end Go.Proofs.Ythjanhfjehccoaa
