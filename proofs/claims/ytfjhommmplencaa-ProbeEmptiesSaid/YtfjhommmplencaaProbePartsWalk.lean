/-
  The walk of the statement ProbeParts. Conditions: none.
-/
import Derived.Test.YtfjhommmplencaaProbeWakes
import Derived.Test.YtfjhommmplencaaOpenRe
import Derived.BigQuiet
namespace Go.Proofs.Ytfjhommmplencaa
open Go.RowKit Go.Shelf

theorem parts_all (l : List Re) (dead : List Int) (long now : Int) : (goodL l dead long now).length + (outL l dead long now).length = l.length := by
  unfold goodL outL
  rw [List.length_map]
  induction l with
  | nil => rfl
  | cons x l ih =>
    rw [List.filter_cons, List.filter_cons]
    cases h : spentR dead long now x <;> simp [goodR, h] <;> omega
theorem goodL_cut (l : List Re) (dead : List Int) (long now : Int) (i : Nat) : goodL l dead long now = goodL (l.take i) dead long now ++ goodL (l.drop i) dead long now := by
  unfold goodL
  rw [← List.filter_append, List.take_append_drop]
theorem outL_cut (l : List Re) (dead : List Int) (long now : Int) (i : Nat) : outL l dead long now = outL (l.take i) dead long now ++ outL (l.drop i) dead long now := by
  unfold outL
  rw [← List.map_append, ← List.filter_append, List.take_append_drop]
theorem goodL_at {l : List Re} {dead : List Int} {long now : Int} {i : Nat} {x : Re} (hx : l[i]? = some x) (hp : spentR dead long now x = false) : (goodL l dead long now)[(goodL (l.take i) dead long now).length]? = some x := by
  rw [goodL_cut l dead long now (i + 1), goodL_snoc dead long now hx, hp]
  simp
theorem outL_at {l : List Re} {dead : List Int} {long now : Int} {i : Nat} {x : Re} (hx : l[i]? = some x) (hp : spentR dead long now x = true) : (outL l dead long now)[(outL (l.take i) dead long now).length]? = some x.1 := by
  rw [outL_cut l dead long now (i + 1), outL_snoc dead long now hx, hp]
  simp
theorem topN_spent {l : List Re} {dead : List Int} {long now : Int} {i : Nat} {x : Re} (hx : l[i]? = some x) (hp : spentR dead long now x = true) : topN dead long now l (i + 1) = topN dead long now l i := by simp [topN, hx, hp]
theorem topN_good {l : List Re} {dead : List Int} {long now : Int} {i : Nat} {x : Re} (hx : l[i]? = some x) (hp : spentR dead long now x = false) : topN dead long now l (i + 1) = i + 1 := by simp [topN, hx, hp]
theorem topN_le (l : List Re) (dead : List Int) (long now : Int) : ∀ k, topN dead long now l k ≤ k
  | 0 => Nat.le_refl _
  | k + 1 => by
    have ih := topN_le l dead long now k
    unfold topN
    split
    · split
      · omega
      · exact Nat.le_refl _
    · omega
theorem topO_at {l : List Re} {n J i : Nat} {x : Re} (hl : l.length = n) (hi : i < n - J) (hx : l[n - 1 - i]? = some x) : (topO l J)[i]? = some x.1 := by
  unfold topO
  rw [List.getElem?_map, List.getElem?_reverse (by rw [List.length_drop]; omega), List.getElem?_drop, List.length_drop, show J + (l.length - J - 1 - i) = n - 1 - i by omega, hx]
  rfl
theorem topO_len (l : List Re) (J : Nat) : (topO l J).length = l.length - J := by simp [topO]
theorem rSame22_sameP (A1 A2 : Option Addr) (n c1 c2 B1 B2 : Nat) (a : List Re) (w : World) (ha : Res w B1 A1 n a) (hb : Res w B2 A2 n a) (hn : n ≤ 100000) :
    Calls Try.prog 13 #[.slice A1 n c1, .slice A2 n c2] w fun e w' => e = .returned (.bool true) ∧ Below w.heap.size w w' :=
  (rSame22_any A1 A2 n n c1 c2 B1 B2 a a w ha hb hn hn).mono fun e w' ⟨h1, h2⟩ => ⟨by rw [h1]; simp, h2⟩

set_option maxRecDepth 100000 in
set_option maxHeartbeats 8000000 in
theorem ProbeParts_in (A1 A3 : Option Addr) (n1 n3 c1 c3 : Nat) (l : List Re) (dead : List Int) (age now : Int) (w : World)
    (hl : Res w w.heap.size A1 n1 l) (hs : Ints w w.heap.size A3 n3 dead) (h1 : n1 ≤ 100) (h3 : n3 ≤ 100) (hc1 : n1 ≤ c1) :
    Calls Try.prog 5 #[.slice A1 n1 c1, .int .i64 age, .int .i64 now, .slice A3 n3 c3] w fun e w' => e = .returned (.bool true) ∧ Below w.heap.size w w' := by
  have G1 : Hid ((decide (100 < n1) || decide (100 < n3)) = false) := (by show _ = _; rw [decide_eq_false (by omega), decide_eq_false (by omega)]; rfl)
  have HL := Lib.hid hl.1
  obtain ⟨G, hG⟩ : ∃ G, G = goodL l dead age now := ⟨_, rfl⟩
  obtain ⟨O, hO⟩ : ∃ O, O = outL l dead age now := ⟨_, rfl⟩
  obtain ⟨g, hg⟩ : ∃ g, G.length = g := ⟨_, rfl⟩
  obtain ⟨o, ho⟩ : ∃ o, O.length = o := ⟨_, rfl⟩
  have hgo : g + o = n1 := by rw [← hg, ← ho, hG, hO, parts_all, hl.1]
  have q1 : ((g : Int) + (o : Int) != (n1 : Int)) = false := by simp; omega
  have gle : g ≤ 100 := by omega
  have ole : o ≤ 100 := by omega
  have HG := Lib.hid hG
  have HO := Lib.hid hO
  have Hg := Lib.hid hg
  have Ho := Lib.hid ho
  have hb : Below w.heap.size w w := Below.refl _ _
  clear hG hO hg ho hgo
  go_enter Try.func5, Try.ntmps5
  go_wp2_with fail
  refine (Great22_any _ _ _ _ _ _ _ (by omega) (by omega)).mono ?_
  rw [G1.out]
  rintro e w' ⟨rfl, rfl⟩
  go_wp2_with fail
  refine (Sift_any _ _ _ l age now _ _ _ dead _ hl (by omega) hs (by omega)).mono ?_
  rw [← HG.out, ← HO.out, Hg.out, Ho.out]
  rintro e w1 ⟨B1, k1, B2, k2, rfl, o1, o2, hbx⟩
  have r1 := o1.recs
  have r2 := o2.ints
  replace hl := (hl.below hbx).more hbx.size
  replace hs := (hs.below hbx).more hbx.size
  replace hb := hb.trans (hbx.mono hb.size)
  clear hbx o1 o2
  go_wp2_with fail
  go_loopw [11, 12, 13, 14] (fun s11 s12 s13 s14 wr => ∃ i p q j : Nat, i ≤ n1 ∧ j ≤ i ∧ s14 = .int .i64 i ∧ s11 = .int .i64 p ∧ s12 = .int .i64 q ∧ s13 = .int .i64 ((j : Int) - 1) ∧ Hid ((goodL (l.take i) dead age now).length = p) ∧ Hid ((outL (l.take i) dead age now).length = q) ∧ Hid (topN dead age now l i = j) ∧ Below w1.heap.size w1 wr) (fun _ _ _ s14 _ => n1 - (intOf s14).toNat)
  case atStart => exact ⟨0, 0, 0, 0, Nat.zero_le _, Nat.le_refl _, rfl, rfl, rfl, rfl, rfl, rfl, rfl, Below.refl _ _⟩
  case round =>
    obtain ⟨i, p, q, j, hi, hji, rfl, rfl, rfl, rfl, hp, hq, hj, hbr⟩ := hrel
    by_cases hgo : i < n1
    · obtain ⟨b1, off1, x, rfl, hbb1, hx, hc1, hc2⟩ := Res.cells (hl.below hbr) hgo
      have hcall := Spent_any x age now _ _ c3 dead wr ((hs.below hbr).more hbr.size) (by omega)
      have g1 := goodL_snoc dead age now hx.out
      have g2 := outL_snoc dead age now hx.out
      cases hsp : spentR dead age now x
      · rw [hsp] at hcall g1 g2
        simp only [Bool.false_eq_true, if_false] at g1 g2
        have hat := goodL_at hx.out hsp
        rw [hp.out, ← HG.out] at hat
        have hlt : p < g := by rw [← Hg.out]; exact (List.getElem?_eq_some_iff.1 hat).1
        have hj2 : Hid (topN dead age now l (i + 1) = i + 1) := topN_good hx.out hsp
        have hp2 : Hid ((goodL (l.take (i + 1)) dead age now).length = p + 1) := by show _ = _; rw [g1, List.length_append, hp.out]; rfl
        have hq2 : Hid ((outL (l.take (i + 1)) dead age now).length = q) := by show _ = _; rw [g2]; exact hq.out
        have HAT := Lib.hid hat
        have e1 : decide ((g : Int) ≤ (p : Int)) = false := by simp; omega
        have e2 : decide (g ≤ p) = false := by simp; omega
        clear g1 g2 hsp hat hp hq hj
        go_wp2_with fail
        refine hcall.mono ?_
        rintro e w2 ⟨rfl, hbx⟩
        replace hbr := hbr.trans (hbx.mono hbr.size)
        obtain ⟨b1', off1', x', e3, hbb1', hx', hc1, hc2⟩ := Res.cells (hl.below hbr) hgo
        injection e3 with e3
        injection e3 with e3 e4
        subst e3 e4
        obtain rfl : x' = x := by have h1 := hx'.out; rw [hx.out] at h1; injection h1 with h1; exact h1.symm
        obtain ⟨b2, off2, y, rfl, hbb2, hy, hd1, hd2⟩ := Res.cells (r1.below hbr) hlt
        obtain rfl : y = x' := by have h1 := hy.out; rw [HAT.out] at h1; injection h1 with h1; exact h1.symm
        have hE := fun wx => eqRe y y wx
        rw [decide_eq_true rfl] at hE
        unfold valRe at hE
        clear hcall hbx
        go_upto_region 14 with fail
        go_quiet (fail)
        go_wp2_with fail
        go_roundw
        case rel => exact ⟨i + 1, p + 1, q, i + 1, by omega, Nat.le_refl _, by go_num, by go_num, rfl, by congr 1; omega, hp2, hq2, hj2, below_drewN hbr _⟩
        case measure => simp [intOf]; omega
      · rw [hsp] at hcall g1 g2
        simp only [if_true] at g1 g2
        have hat := outL_at hx.out hsp
        rw [hq.out, ← HO.out] at hat
        have hlt : q < o := by rw [← Ho.out]; exact (List.getElem?_eq_some_iff.1 hat).1
        have hj2 : Hid (topN dead age now l (i + 1) = j) := by show _ = _; rw [topN_spent hx.out hsp]; exact hj.out
        have hp2 : Hid ((goodL (l.take (i + 1)) dead age now).length = p) := by show _ = _; rw [g1]; exact hp.out
        have hq2 : Hid ((outL (l.take (i + 1)) dead age now).length = q + 1) := by show _ = _; rw [g2, List.length_append, hq.out]; rfl
        have HAT := Lib.hid hat
        have e1 : decide ((o : Int) ≤ (q : Int)) = false := by simp; omega
        have e2 : decide (o ≤ q) = false := by simp; omega
        clear g1 g2 hsp hat hp hq hj
        go_wp2_with fail
        refine hcall.mono ?_
        rintro e w2 ⟨rfl, hbx⟩
        replace hbr := hbr.trans (hbx.mono hbr.size)
        obtain ⟨b1', off1', x', e3, hbb1', hx', hc1, hc2⟩ := Res.cells (hl.below hbr) hgo
        injection e3 with e3
        injection e3 with e3 e4
        subst e3 e4
        obtain rfl : x' = x := by have h1 := hx'.out; rw [hx.out] at h1; injection h1 with h1; exact h1.symm
        obtain ⟨b2, off2, y, rfl, hbb2, hy, hd1⟩ := (r2.below hbr).at_ hlt
        obtain rfl : y = x'.1 := by have h1 := hy.out; rw [HAT.out] at h1; injection h1 with h1; exact h1.symm
        clear hcall hbx
        go_upto_region 11 with fail
        go_quiet (fail)
        go_wp2_with fail
        go_roundw
        case rel => exact ⟨i + 1, p, q + 1, j, by omega, by omega, by go_num, rfl, by go_num, rfl, hp2, hq2, hj2, below_drewN hbr _⟩
        case measure => simp [intOf]; omega
    · obtain rfl : i = n1 := by omega
      have hJ : topJ l dead age now = j := by unfold topJ; rw [HL.out]; exact hj.out
      have HJ := Lib.hid hJ
      replace hl := (hl.below hbr).more hbr.size
      replace hs := (hs.below hbr).more hbr.size
      replace hb := hb.trans (hbr.mono hb.size)
      clear hbr hp hq hj hJ r1 r2 hgo
      rcases Nat.eq_zero_or_pos j with h0 | h0
      · have HJ0 : Hid (topJ l dead age now = 0) := by show _ = _; rw [HJ.out]; exact h0
        have e1 : decide ((0 : Int) ≤ (j : Int) - 1) = false := by simp; omega
        have e2 : decide ((1 : Int) ≤ (j : Int)) = false := by simp; omega
        clear h0
        go_wp2_with fail
        refine (Top_any _ _ _ l age now _ _ _ dead _ hl (by omega) hc1 hs (by omega)).mono ?_
        rw [HJ0.out, Nat.zero_sub, Nat.sub_zero, show topS l 0 = -1 from rfl, show decide (0 < 0) = false from rfl]
        rintro e w3 ⟨B5, k5, B6, k6, rfl, o1, o2, hbx⟩
        replace hb := hb.trans (hbx.mono hb.size)
        clear hbx o1 o2
        go_wp2_with fail
        refine (wakes22_any _).mono ?_
        rintro e w4 ⟨rfl, hbx⟩
        replace hb := hb.trans (hbx.mono hb.size)
        go_wp2_with fail
        go_ret
        exact ⟨rfl, hb⟩
      · have e1 : decide ((0 : Int) ≤ (j : Int) - 1) = true := by simp; omega
        have e2 : decide ((1 : Int) ≤ (j : Int)) = true := by simp; omega
        obtain ⟨d, hd⟩ : ∃ d, i - j = d := ⟨_, rfl⟩
        obtain ⟨b1, off1, x, rfl, hbb1, hx, hx1, hx2⟩ := Res.cells hl (i := j - 1) (by omega)
        have hsock : topS l j = x.1 := by unfold topS; rw [if_pos h0, List.getD_eq_getElem?_getD, hx.out]; rfl
        have HS := Lib.hid hsock
        have HQ : Hid (decide (0 < j) = true) := by show _ = _; simpa using h0
        have i1 : (1 : Int) ≤ (j : Int) := by omega
        have i2 : (0 : Int) ≤ (j : Int) - 1 := by omega
        have i3 : (j : Int) - 1 < (i : Int) := by omega
        have i4 : (j : Int) - 1 ≤ (c1 : Int) := by omega
        have i5 : ((j : Int) - 1).toNat = j - 1 := by omega
        have hdi : d ≤ i := by omega
        have q2 : ((d : Int) != (i : Int) - 1 - ((j : Int) - 1)) = false := by simp; omega
        have hdb : Hid (∀ t, t < d → t < i - j) := fun t ht => by rw [hd]; exact ht
        have hj1 : (j - 1) ≤ i := by omega
        have HD := Lib.hid hd
        clear hsock hd
        go_wp2_with fail
        refine (Top_any _ _ _ l age now _ _ _ dead _ hl (by omega) hc1 hs (by omega)).mono ?_
        rw [HJ.out, HD.out, HS.out, HQ.out]
        rintro e w3 ⟨B5, k5, B6, k6, rfl, o1, o2, hbx⟩
        have r5 := o1.recs
        have r6 := o2.ints
        replace hl := (hl.below hbx).more hbx.size
        replace hb := hb.trans (hbx.mono hb.size)
        replace hx1 := (hbx.cell (p := ⟨b1, off1 + (j - 1) * 2, none⟩) hbb1).trans hx1
        replace hx2 := (hbx.cell (p := ⟨b1, off1 + (j - 1) * 2 + 1, none⟩) hbb1).trans hx2
        have rp := Recs.take1 encRe_len hl hj1
        clear hbx o1 o2 e1 e2
        go_wp2_with fail
        refine (rSame22_sameP _ _ (j - 1) _ _ _ _ (l.take (j - 1)) _ r5 rp (by omega)).mono ?_
        rintro e w4 ⟨rfl, hbx⟩
        replace hl := (hl.below hbx).more hbx.size
        replace r6 := (r6.below hbx).more hbx.size
        replace hb := hb.trans (hbx.mono hb.size)
        clear hbx r5 rp hx1 hx2
        go_wp2_with fail
        clear q1 q2
        go_loopw [19] (fun s19 wr => ∃ t : Nat, t ≤ d ∧ s19 = .int .i64 t ∧ Below w4.heap.size w4 wr) (fun s19 _ => d - (intOf s19).toNat)
        case atStart => exact ⟨0, Nat.zero_le _, rfl, Below.refl _ _⟩
        case round =>
          obtain ⟨t, ht, rfl, hbr⟩ := hrel
          by_cases hgo : t < d
          · have htj := hdb.out t hgo
            obtain ⟨b2, off2, y, e3, hbb2, hy, hy1, hy2⟩ := Res.cells (hl.below hbr) (i := i - 1 - t) (by omega)
            injection e3 with e3
            injection e3 with e3 e4
            subst e3 e4
            obtain ⟨b3, off3, z, rfl, hbb3, hz, hz1⟩ := (r6.below hbr).at_ hgo
            obtain rfl : z = y.1 := by have h1 := hz.out; rw [topO_at HL.out htj hy.out] at h1; injection h1 with h1; exact h1.symm
            have w1 : IntKind.i64.wrap ((i : Int) - 1) = (i : Int) - 1 := IntWalk.i64_in _ (by omega)
            have w2 : IntKind.i64.wrap ((i : Int) - 1 - (t : Int)) = (i : Int) - 1 - (t : Int) := IntWalk.i64_in _ (by omega)
            have u1 : (t : Int) ≤ (i : Int) - 1 := by omega
            have u2 : (0 : Int) ≤ (i : Int) - 1 - (t : Int) := by omega
            have u3 : (i : Int) - 1 - (t : Int) < (i : Int) := by omega
            have u5 : ((i : Int) - 1 - (t : Int)).toNat = i - 1 - t := by omega
            go_upto_region 28 with fail
            go_quiet (fail)
            clear w1 w2
            go_wp2_with fail
            go_roundw
            case rel => exact ⟨t + 1, by omega, by go_num, below_drewN hbr _⟩
            case measure => simp [intOf]; omega
          · replace hb := hb.trans (hbr.mono hb.size)
            clear hbr
            go_wp2_with fail
            refine (wakes22_any _).mono ?_
            rintro e w5 ⟨rfl, hbx⟩
            replace hb := hb.trans (hbx.mono hb.size)
            go_wp2_with fail
            go_ret
            exact ⟨rfl, hb⟩

set_option maxRecDepth 100000 in
set_option maxHeartbeats 2000000 in
theorem ProbeParts_walk (A1 : Option Addr) (n1 c1 : Nat) (l : List Re) (age now : Int) (A3 : Option Addr) (n3 c3 : Nat) (dead : List Int) (w : World)
    (hl : Res w w.heap.size A1 n1 l) (_o1 : ∀ x ∈ l, okRe x) (h1 : n1 ≤ 9223372036854775807) (q1 : n1 ≤ c1) (hs : Ints w w.heap.size A3 n3 dead) (h3 : n3 ≤ 9223372036854775807) :
    Calls Try.prog 5 #[.slice A1 n1 c1, .int .i64 age, .int .i64 now, .slice A3 n3 c3] w fun e w' => e = .returned (.bool true) ∧ Below w.heap.size w w' := by
  cases g1 : (decide (100 < n1) || decide (100 < n3))
  · simp only [Bool.or_eq_false_iff, decide_eq_false_iff_not] at g1
    exact ProbeParts_in A1 A3 n1 n3 c1 c3 l dead age now w hl hs (by omega) (by omega) q1
  · have G1 := Lib.hid g1
    clear g1
    go_enter Try.func5, Try.ntmps5
    go_wp2_with fail
    refine (Great22_any _ _ _ _ _ _ _ h1 h3).mono ?_
    rw [G1.out]
    rintro e w' ⟨rfl, rfl⟩
    go_wp2_with fail
    refine (wakes22_any _).mono ?_
    rintro e w4 ⟨rfl, hb4⟩
    go_wp2_with fail
    go_ret
    exact ⟨rfl, hb4⟩
end Go.Proofs.Ytfjhommmplencaa
