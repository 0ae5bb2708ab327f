/-
  The walk of the statement ScarHeals. Conditions: none.
-/
import Derived.Test.YtgpijomnnnjgkaaScarWakes
import Derived.Test.YtgpijomnnnjgkaaOpenSc
import Derived.BigQuiet
namespace Go.Proofs.Ytgpijomnnnjgkaa
open Go.RowKit Go.Shelf

theorem heal_none (l : List Sc) (a : Ad) : ∀ x ∈ healL l [a], x.1 ≠ a := by
  intro x hx
  have := (List.mem_filter.1 hx).2
  simpa [healR] using this
theorem heal_keeps {l : List Sc} {a : Ad} (h : ∀ x ∈ l, x.1 ≠ a) : healL l [a] = l := by
  refine List.filter_eq_self.2 fun x hx => ?_
  simpa [healR] using h x hx
theorem has_none {l : List Sc} {a : Ad} (age now : Int) (h : ∀ x ∈ l, x.1 ≠ a) : hasB l age now [a] = false := by
  unfold hasB
  simp only [List.all_cons, List.all_nil, Bool.and_true]
  rw [Bool.eq_false_iff]
  intro h2
  obtain ⟨x, hx, hx2⟩ := List.any_eq_true.1 h2
  exact h x (List.mem_filter.1 hx).1 (by simpa [isAt] using hx2)
theorem note_one {l : List Sc} {a : Ad} (now : Int) (h : ∀ x ∈ l, x.1 ≠ a) : noteL l now [a] = lastOnes (l ++ [(a, now)]) := by
  simp [noteL, noteAll, noteStep, heal_keeps h]
theorem last_mem (l : List Sc) (x : Sc) : x ∈ lastOnes (l ++ [x]) := by
  unfold lastOnes
  refine List.mem_iff_getElem?.2 ⟨l.length - (l.length + 1 - 32), ?_⟩
  rw [List.getElem?_drop]
  rw [show (l ++ [x]).length - 32 + (l.length - (l.length + 1 - 32)) = l.length by simp only [List.length_append, List.length_cons, List.length_nil]; omega]
  simp
theorem last_of {l : List Sc} {x y : Sc} (h : y ∈ lastOnes (l ++ [x])) : y ∈ l ∨ y = x := by
  have := List.mem_of_mem_drop h
  simpa using this
theorem has_last {l : List Sc} {a : Ad} {t : Int} (age now : Int) (hf : freshR age now (a, t) = true) : hasB (lastOnes (l ++ [(a, t)])) age now [a] = true := by
  unfold hasB
  simp only [List.all_cons, List.all_nil, Bool.and_true]
  exact List.any_eq_true.2 ⟨(a, t), List.mem_filter.2 ⟨last_mem _ _, hf⟩, by simp [isAt]⟩
theorem has_old {l : List Sc} {a : Ad} {t : Int} (age now : Int) (h : ∀ x ∈ l, x.1 ≠ a) (hf : freshR age now (a, t) = false) : hasB (lastOnes (l ++ [(a, t)])) age now [a] = false := by
  unfold hasB
  simp only [List.all_cons, List.all_nil, Bool.and_true]
  rw [Bool.eq_false_iff]
  intro h2
  obtain ⟨x, hx, hx2⟩ := List.any_eq_true.1 h2
  obtain ⟨hx3, hx4⟩ := List.mem_filter.1 hx
  have hx5 : x.1 = a := by simpa [isAt] using hx2
  rcases last_of hx3 with h3 | h3
  · exact h x h3 hx5
  · rw [h3] at hx4
    rw [hf] at hx4
    cases hx4
theorem heal_take_hit {l : List Sc} {a : Ad} {i : Nat} {x : Sc} (hx : l[i]? = some x) (he : x.1 = a) : healL (l.take (i + 1)) [a] = healL (l.take i) [a] := by
  rw [take_succ_of hx]
  simp [healL, healR, he]
theorem heal_take_miss {l : List Sc} {a : Ad} {i : Nat} {x : Sc} (hx : l[i]? = some x) (he : x.1 ≠ a) : healL (l.take (i + 1)) [a] = healL (l.take i) [a] ++ [x] := by
  rw [take_succ_of hx]
  simp [healL, healR, he]
theorem heal_at {l : List Sc} {a : Ad} {i k : Nat} {x : Sc} (hx : l[i]? = some x) (he : x.1 ≠ a) (hk : (healL (l.take i) [a]).length = k) : (healL l [a])[k]? = some x := by
  have h1 := heal_take_miss hx he
  have h2 : healL l [a] = healL (l.take (i + 1)) [a] ++ healL (l.drop (i + 1)) [a] := by
    unfold healL
    rw [← List.filter_append, List.take_append_drop]
  rw [h2, h1, List.append_assoc, List.getElem?_append_right (by omega), hk]
  simp
theorem heal_lt {l : List Sc} {a : Ad} {i k : Nat} {x : Sc} (hx : l[i]? = some x) (he : x.1 ≠ a) (hk : (healL (l.take i) [a]).length = k) : k < (healL l [a]).length :=
  (List.getElem?_eq_some_iff.1 (heal_at hx he hk)).1
theorem freshR_at (a : Ad) (age now d : Int) (h0 : 0 ≤ now) (h1 : now ≤ 1048576) (h2 : 1 ≤ age) (h3 : age ≤ 1000) (h4 : 0 ≤ d) (h5 : d ≤ age) : freshR age (now + d) (a, now) = decide (d < age) := by
  unfold freshR oldB
  rw [clamp_of (t := now) (by omega) (by omega), clamp_of (t := age) (by omega) (by omega), clamp_of (t := now + age) (by omega) (by omega), clamp_of (t := now + d) (by omega) (by omega)]
  by_cases h : d < age
  · rw [decide_eq_true h]; simp; omega
  · rw [decide_eq_false h]; simp; omega
theorem Great12_anyH (A : Option Addr) (n c : Nat) (w : World) (h : n ≤ 9223372036854775807) : Calls Try.prog 12 #[.slice A n c] w fun e w' => e = .returned (.bool (decide (100 < n))) ∧ w = w' := by
  have d : decide ((100 : Int) < (n : Int)) = decide (100 < n) := by rw [decide_eq_decide]; omega
  have D := Lib.hid d
  clear d
  go_enter Try.func12, Try.ntmps12
  go_wp2_with fail
  go_ret
  exact ⟨ret_bool (by first | exact D.out | rfl | simp), rfl⟩

set_option maxRecDepth 100000 in
set_option maxHeartbeats 8000000 in
theorem ScarHeals_in (A : Option Addr) (n c : Nat) (l : List Sc) (a : Ad) (age now : Int) (w : World)
    (hl : Scs w w.heap.size A n l) (hn : n ≤ 100) (ha1 : 1 ≤ age) (ha2 : age ≤ 1000) (hn0 : 0 ≤ now) (hn1 : now ≤ 1048576) :
    Calls Try.prog 4 #[.slice A n c, .agg #[.int .i8 a.1, .int .u16 a.2.1, .int .u16 a.2.2.1, .int .u16 a.2.2.2.1, .int .u16 a.2.2.2.2.1, .int .u16 a.2.2.2.2.2.1, .int .u16 a.2.2.2.2.2.2.1, .int .u16 a.2.2.2.2.2.2.2.1, .int .u16 a.2.2.2.2.2.2.2.2.1, .int .i64 a.2.2.2.2.2.2.2.2.2], .int .i64 age, .int .i64 now] w fun e w' => e = .returned (.bool true) ∧ Below w.heap.size w w' := by
  have G1 : Hid (decide (100 < n) = false) := (by show _ = _; simp; omega)
  have d1 : decide (age < 1) = false := by simp; omega
  have d2 : decide (1000 < age) = false := by simp; omega
  have d3 : decide (now < 0) = false := by simp; omega
  have d4 : decide (1048576 < now) = false := by simp; omega
  obtain ⟨F, hF⟩ : ∃ F, F = healL l [a] := ⟨_, rfl⟩
  have hNo := heal_none l a
  rw [← hF] at hNo
  have hFl : F.length ≤ n := by rw [hF, ← hl.1]; exact healL_le _ _
  obtain ⟨m, hm⟩ : ∃ m, F.length = m := ⟨_, rfl⟩
  rw [hm] at hFl
  obtain ⟨R, hR⟩ : ∃ R, R = lastOnes (F ++ [(a, now)]) := ⟨_, rfl⟩
  have hNR : noteL F now [a] = R := by rw [hR]; exact note_one now hNo
  obtain ⟨q, hq⟩ : ∃ q, R.length = q := ⟨_, rfl⟩
  have hql : q ≤ 101 := by rw [← hq, hR, lastOnes_len]; simp; omega
  have f1 := has_last (l := F) age now (show freshR age now (a, now) = true by have := freshR_at a age now 0 hn0 hn1 ha1 ha2 (by omega) (by omega); rw [Int.add_zero] at this; rw [this]; simp; omega)
  have f2 := has_last (l := F) age (now + age - 1) (show freshR age (now + age - 1) (a, now) = true by have := freshR_at a age now (age - 1) hn0 hn1 ha1 ha2 (by omega) (by omega); rw [show now + age - 1 = now + (age - 1) by omega, this]; simp; omega)
  have f3 := has_old (l := F) age (now + age) hNo (show freshR age (now + age) (a, now) = false by have := freshR_at a age now age hn0 hn1 ha1 ha2 (by omega) (by omega); rw [this]; simp)
  rw [← hR] at f1 f2 f3
  have HF1 := Lib.hid f1
  have HF2 := Lib.hid f2
  have HF3 := Lib.hid f3
  have HNR := Lib.hid hNR
  have HQ := Lib.hid hq
  have HF := Lib.hid hF
  have HM := Lib.hid hm
  have HHas := Lib.hid (has_none age now hNo)
  replace hl : Scs (w.alloc (.cells #[.int .i8 a.1, .int .u16 a.2.1, .int .u16 a.2.2.1, .int .u16 a.2.2.2.1, .int .u16 a.2.2.2.2.1, .int .u16 a.2.2.2.2.2.1, .int .u16 a.2.2.2.2.2.2.1, .int .u16 a.2.2.2.2.2.2.2.1, .int .u16 a.2.2.2.2.2.2.2.2.1, .int .i64 a.2.2.2.2.2.2.2.2.2] 31)) (w.alloc (.cells #[.int .i8 a.1, .int .u16 a.2.1, .int .u16 a.2.2.1, .int .u16 a.2.2.2.1, .int .u16 a.2.2.2.2.1, .int .u16 a.2.2.2.2.2.1, .int .u16 a.2.2.2.2.2.2.1, .int .u16 a.2.2.2.2.2.2.2.1, .int .u16 a.2.2.2.2.2.2.2.2.1, .int .i64 a.2.2.2.2.2.2.2.2.2] 31)).heap.size A n l := (hl.alloc (Nat.le_refl _) _).more (by first | omega | (simp; done) | (simp; omega))
  have HL := Lib.hid hl.1
  have hA : (w.alloc (.cells #[.int .i8 a.1, .int .u16 a.2.1, .int .u16 a.2.2.1, .int .u16 a.2.2.2.1, .int .u16 a.2.2.2.2.1, .int .u16 a.2.2.2.2.2.1, .int .u16 a.2.2.2.2.2.2.1, .int .u16 a.2.2.2.2.2.2.2.1, .int .u16 a.2.2.2.2.2.2.2.2.1, .int .i64 a.2.2.2.2.2.2.2.2.2] 31)).heap[w.heap.size]? = some (.cells #[.int .i8 a.1, .int .u16 a.2.1, .int .u16 a.2.2.1, .int .u16 a.2.2.2.1, .int .u16 a.2.2.2.2.1, .int .u16 a.2.2.2.2.2.1, .int .u16 a.2.2.2.2.2.2.1, .int .u16 a.2.2.2.2.2.2.2.1, .int .u16 a.2.2.2.2.2.2.2.2.1, .int .i64 a.2.2.2.2.2.2.2.2.2] 31 (0, 0)) := heap_alloc_new w _
  have lA : w.heap.size < (w.alloc (.cells #[.int .i8 a.1, .int .u16 a.2.1, .int .u16 a.2.2.1, .int .u16 a.2.2.2.1, .int .u16 a.2.2.2.2.1, .int .u16 a.2.2.2.2.2.1, .int .u16 a.2.2.2.2.2.2.1, .int .u16 a.2.2.2.2.2.2.2.1, .int .u16 a.2.2.2.2.2.2.2.2.1, .int .i64 a.2.2.2.2.2.2.2.2.2] 31)).heap.size := by simp
  have hb : Below w.heap.size w (w.alloc (.cells #[.int .i8 a.1, .int .u16 a.2.1, .int .u16 a.2.2.1, .int .u16 a.2.2.2.1, .int .u16 a.2.2.2.2.1, .int .u16 a.2.2.2.2.2.1, .int .u16 a.2.2.2.2.2.2.1, .int .u16 a.2.2.2.2.2.2.2.1, .int .u16 a.2.2.2.2.2.2.2.2.1, .int .i64 a.2.2.2.2.2.2.2.2.2] 31)) := Below.new_ w _
  clear hF hm hNo f1 f2 f3 hNR hq hR
  go_enter Try.func4, Try.ntmps4
  go_wp2_with fail
  refine (Great12_anyH _ _ _ _ (by omega)).mono ?_
  rw [G1.out]
  rintro e w' ⟨rfl, rfl⟩
  go_upto_region 3 with fail
  generalize (w.alloc (.cells #[.int .i8 a.1, .int .u16 a.2.1, .int .u16 a.2.2.1, .int .u16 a.2.2.2.1, .int .u16 a.2.2.2.2.1, .int .u16 a.2.2.2.2.2.1, .int .u16 a.2.2.2.2.2.2.1, .int .u16 a.2.2.2.2.2.2.2.1, .int .u16 a.2.2.2.2.2.2.2.2.1, .int .i64 a.2.2.2.2.2.2.2.2.2] 31)) = W at *
  obtain ⟨z0, z1, z2, z3, z4, z5, z6, z7, z8, z9⟩ := ad_cells hA
  go_wp2_with fail
  refine (Heal_any _ _ _ l _ _ _ [a] _ ((hl.alloc (Nat.le_refl _) _).more (by first | omega | (simp; done) | (simp; omega))) (by omega) ((Ads.new1 _ _ (by first | omega | (simp; done) | (simp; omega)) a _).more (by first | omega | (simp; done) | (simp; omega))) (by omega)).mono ?_
  rw [← HF.out, HM.out]
  rintro e w1 ⟨A1, c1, rfl, o1, hbx⟩
  have r1 := o1.recs
  replace hbx := (Below.new_ W _).trans (hbx.mono (by first | omega | (simp; done) | (simp; omega)))
  replace hl := (hl.below hbx).more hbx.size
  replace hA := (hbx.block _ lA).trans hA
  replace lA := Nat.lt_of_lt_of_le lA hbx.size
  replace hb := hb.trans (hbx.mono hb.size)
  clear hbx o1 z0 z1 z2 z3 z4 z5 z6 z7 z8 z9
  obtain ⟨z0, z1, z2, z3, z4, z5, z6, z7, z8, z9⟩ := ad_cells hA
  go_wp2_with fail
  refine (Has_any _ _ _ F age now _ _ _ [a] _ ((r1.alloc (Nat.le_refl _) _).more (by first | omega | (simp; done) | (simp; omega))) (by omega) ((Ads.new1 _ _ (by first | omega | (simp; done) | (simp; omega)) a _).more (by first | omega | (simp; done) | (simp; omega))) (by omega)).mono ?_
  rw [HHas.out]
  rintro e w2 ⟨rfl, hbx⟩
  replace hbx := (Below.new_ w1 _).trans (hbx.mono (by first | omega | (simp; done) | (simp; omega)))
  replace r1 := (r1.below hbx).more hbx.size
  replace hl := (hl.below hbx).more hbx.size
  replace hA := (hbx.block _ lA).trans hA
  replace lA := Nat.lt_of_lt_of_le lA hbx.size
  replace hb := hb.trans (hbx.mono hb.size)
  clear hbx z0 z1 z2 z3 z4 z5 z6 z7 z8 z9
  go_wp2_with fail
  go_loopw [10, 11] (fun s10 s11 wr => ∃ k i : Nat, i ≤ n ∧ s10 = .int .i64 k ∧ s11 = .int .i64 i ∧ Hid ((healL (l.take i) [a]).length = k) ∧ Below w2.heap.size w2 wr) (fun _ s11 _ => n - (intOf s11).toNat)
  case atStart => exact ⟨0, 0, Nat.zero_le _, rfl, rfl, rfl, Below.refl _ _⟩
  case round =>
    obtain ⟨k, i, hi, rfl, rfl, hk, hbr⟩ := hrel
    by_cases hgo : i < n
    · obtain ⟨b1, off1, x, rfl, hbb1, hx, hc0, hc1, hc2, hc3, hc4, hc5, hc6, hc7, hc8, hc9, hc10⟩ := Scs.cells (hl.below hbr) hgo
      obtain ⟨z0, z1, z2, z3, z4, z5, z6, z7, z8, z9⟩ := ad_cells ((hbr.block _ lA).trans hA)
      have hE := fun wx => eqAd x.1 a wx
      unfold valAd at hE
      by_cases hp : x.1 = a
      · rw [decide_eq_true hp] at hE
        have hk2 : Hid ((healL (l.take (i + 1)) [a]).length = k) := by show _ = _; rw [heal_take_hit hx.out hp]; exact hk.out
        clear hp
        go_upto_region 10 with fail
        go_quiet (fail)
        go_wp2_with fail
        go_roundw
        case rel => exact ⟨k, i + 1, by omega, by go_num, by go_num, hk2, by first | exact below_drewN hbr _ | exact hbr.drew | exact hbr⟩
        case measure => simp [intOf]; omega
      · rw [decide_eq_false hp] at hE
        have hat := heal_at hx.out hp hk.out
        rw [← HF.out] at hat
        have hkm : k < m := by rw [← HM.out]; exact (List.getElem?_eq_some_iff.1 hat).1
        have hk2 : Hid ((healL (l.take (i + 1)) [a]).length = k + 1) := by show _ = _; rw [heal_take_miss hx.out hp, List.length_append, hk.out]; rfl
        obtain ⟨b2, off2, y, rfl, hbb2, hy, hf0, hf1, hf2, hf3, hf4, hf5, hf6, hf7, hf8, hf9, hf10⟩ := Scs.cells (r1.below hbr) hkm
        have hyx : y = x := by have := hy.out; rw [hat] at this; injection this with this; exact this.symm
        subst hyx
        have hE2 := fun wx => eqSc y y wx
        rw [decide_eq_true rfl] at hE2
        unfold valSc at hE2
        have e1 : decide ((m : Int) ≤ (k : Int)) = false := by simp; omega
        have e2 : decide (m ≤ k) = false := by simp; omega
        clear hp hat
        go_upto_region 10 with fail
        go_quiet (fail)
        go_upto_region 11 with fail
        go_quiet (fail)
        go_wp2_with fail
        go_roundw
        case rel => exact ⟨k + 1, i + 1, by omega, by go_num, by go_num, hk2, by first | exact below_drewN (below_drewN hbr _) _ | exact below_drewN hbr _ | exact hbr.drew.drew | exact hbr⟩
        case measure => simp [intOf]; omega
    · have hkm : k = m := by
        have := hk.out
        rw [List.take_of_length_le (by rw [HL.out]; omega), ← HF.out, HM.out] at this
        exact this.symm
      subst hkm
      have e1 : ((k : Int) == (k : Int)) = true := by simp
      replace r1 := (r1.below hbr).more hbr.size
      replace hA := (hbr.block _ lA).trans hA
      replace lA := Nat.lt_of_lt_of_le lA hbr.size
      replace hb := hb.trans (hbr.mono hb.size)
      obtain ⟨z0, z1, z2, z3, z4, z5, z6, z7, z8, z9⟩ := ad_cells hA
      clear hbr hl hk
      go_wp2_with fail
      refine (Note_at _ _ _ F now _ _ _ [a] _ ((r1.alloc (Nat.le_refl _) _).more (by first | omega | (simp; done) | (simp; omega))) ((Ads.new1 _ _ (by first | omega | (simp; done) | (simp; omega)) a _).more (by first | omega | (simp; done) | (simp; omega))) R q HNR.out HQ.out (by omega)).mono ?_
      rintro e w3 ⟨A3, c3, rfl, r3, _, hbx⟩
      replace hbx := (Below.new_ wr _).trans (hbx.mono (by first | omega | (simp; done) | (simp; omega)))
      replace hA := (hbx.block _ lA).trans hA
      replace lA := Nat.lt_of_lt_of_le lA hbx.size
      replace hb := hb.trans (hbx.mono hb.size)
      clear hbx r1 z0 z1 z2 z3 z4 z5 z6 z7 z8 z9
      obtain ⟨z0, z1, z2, z3, z4, z5, z6, z7, z8, z9⟩ := ad_cells hA
      go_wp2_with fail
      refine (Has_any _ _ _ R age now _ _ _ [a] _ ((r3.alloc (Nat.le_refl _) _).more (by first | omega | (simp; done) | (simp; omega))) (by omega) ((Ads.new1 _ _ (by first | omega | (simp; done) | (simp; omega)) a _).more (by first | omega | (simp; done) | (simp; omega))) (by omega)).mono ?_
      rw [HF1.out]
      rintro e w4 ⟨rfl, hbx⟩
      replace hbx := (Below.new_ w3 _).trans (hbx.mono (by first | omega | (simp; done) | (simp; omega)))
      replace r3 := (r3.below hbx).more hbx.size
      replace hA := (hbx.block _ lA).trans hA
      replace lA := Nat.lt_of_lt_of_le lA hbx.size
      replace hb := hb.trans (hbx.mono hb.size)
      clear hbx z0 z1 z2 z3 z4 z5 z6 z7 z8 z9
      obtain ⟨z0, z1, z2, z3, z4, z5, z6, z7, z8, z9⟩ := ad_cells hA
      go_wp2_with fail
      refine (Has_any _ _ _ R age (now + age - 1) _ _ _ [a] _ ((r3.alloc (Nat.le_refl _) _).more (by first | omega | (simp; done) | (simp; omega))) (by omega) ((Ads.new1 _ _ (by first | omega | (simp; done) | (simp; omega)) a _).more (by first | omega | (simp; done) | (simp; omega))) (by omega)).mono ?_
      rw [HF2.out]
      rintro e w5 ⟨rfl, hbx⟩
      replace hbx := (Below.new_ w4 _).trans (hbx.mono (by first | omega | (simp; done) | (simp; omega)))
      replace r3 := (r3.below hbx).more hbx.size
      replace hA := (hbx.block _ lA).trans hA
      replace lA := Nat.lt_of_lt_of_le lA hbx.size
      replace hb := hb.trans (hbx.mono hb.size)
      clear hbx z0 z1 z2 z3 z4 z5 z6 z7 z8 z9
      obtain ⟨z0, z1, z2, z3, z4, z5, z6, z7, z8, z9⟩ := ad_cells hA
      go_wp2_with fail
      refine (Has_any _ _ _ R age (now + age) _ _ _ [a] _ ((r3.alloc (Nat.le_refl _) _).more (by first | omega | (simp; done) | (simp; omega))) (by omega) ((Ads.new1 _ _ (by first | omega | (simp; done) | (simp; omega)) a _).more (by first | omega | (simp; done) | (simp; omega))) (by omega)).mono ?_
      rw [HF3.out]
      rintro e w6 ⟨rfl, hbx⟩
      replace hbx := (Below.new_ w5 _).trans (hbx.mono (by first | omega | (simp; done) | (simp; omega)))
      replace r3 := (r3.below hbx).more hbx.size
      replace hA := (hbx.block _ lA).trans hA
      replace lA := Nat.lt_of_lt_of_le lA hbx.size
      replace hb := hb.trans (hbx.mono hb.size)
      clear hbx z0 z1 z2 z3 z4 z5 z6 z7 z8 z9
      obtain ⟨z0, z1, z2, z3, z4, z5, z6, z7, z8, z9⟩ := ad_cells hA
      go_wp2_with fail
      refine (wakes12_any _).mono ?_
      rintro e w7 ⟨rfl, hbx⟩
      replace hb := hb.trans (hbx.mono hb.size)
      go_wp2_with fail
      go_ret
      exact ⟨rfl, hb⟩

set_option maxRecDepth 100000 in
set_option maxHeartbeats 2000000 in
theorem ScarHeals_walk (A : Option Addr) (n c : Nat) (l : List Sc) (a : Ad) (age now : Int) (w : World)
    (hl : Scs w w.heap.size A n l) (hn : n ≤ 9223372036854775807) (_ho : ∀ x ∈ l, okSc x) (_hc : n ≤ c) :
    Calls Try.prog 4 #[.slice A n c, .agg #[.int .i8 a.1, .int .u16 a.2.1, .int .u16 a.2.2.1, .int .u16 a.2.2.2.1, .int .u16 a.2.2.2.2.1, .int .u16 a.2.2.2.2.2.1, .int .u16 a.2.2.2.2.2.2.1, .int .u16 a.2.2.2.2.2.2.2.1, .int .u16 a.2.2.2.2.2.2.2.2.1, .int .i64 a.2.2.2.2.2.2.2.2.2], .int .i64 age, .int .i64 now] w fun e w' => e = .returned (.bool true) ∧ Below w.heap.size w w' := by
  by_cases hin : n ≤ 100 ∧ 1 ≤ age ∧ age ≤ 1000 ∧ 0 ≤ now ∧ now ≤ 1048576
  · obtain ⟨h1, h2, h3, h4, h5⟩ := hin
    exact ScarHeals_in A n c l a age now w hl h1 h2 h3 h4 h5
  · have hb : Below w.heap.size w (w.alloc (.cells #[.int .i8 a.1, .int .u16 a.2.1, .int .u16 a.2.2.1, .int .u16 a.2.2.2.1, .int .u16 a.2.2.2.2.1, .int .u16 a.2.2.2.2.2.1, .int .u16 a.2.2.2.2.2.2.1, .int .u16 a.2.2.2.2.2.2.2.1, .int .u16 a.2.2.2.2.2.2.2.2.1, .int .i64 a.2.2.2.2.2.2.2.2.2] 31)) := Below.new_ w _
    have hin2 : (100 < n) ∨ (n ≤ 100 ∧ age < 1) ∨ (n ≤ 100 ∧ ¬ age < 1 ∧ 1000 < age) ∨ (n ≤ 100 ∧ ¬ age < 1 ∧ ¬ 1000 < age ∧ now < 0) ∨ (n ≤ 100 ∧ ¬ age < 1 ∧ ¬ 1000 < age ∧ ¬ now < 0 ∧ 1048576 < now) := by omega
    clear hin
    rcases hin2 with h0 | ⟨h0, h1⟩ | ⟨h0, h1, h2⟩ | ⟨h0, h1, h2, h3⟩ | ⟨h0, h1, h2, h3, h4⟩
    · have G1 : Hid (decide (100 < n) = true) := (by show _ = _; simp; omega)
      clear h0
      go_enter Try.func4, Try.ntmps4
      go_wp2_with fail
      refine (Great12_anyH _ _ _ _ hn).mono ?_
      rw [G1.out]
      rintro e w' ⟨rfl, rfl⟩
      go_wp2_with fail
      refine (wakes12_any _).mono ?_
      rintro e w4 ⟨rfl, hb4⟩
      replace hb := hb.trans (hb4.mono hb.size)
      go_wp2_with fail
      go_ret
      exact ⟨rfl, hb⟩
    · have G1 : Hid (decide (100 < n) = false) := (by show _ = _; simp; omega)
      have d1 : decide (age < 1) = true := by simp; omega
      clear h0 h1
      go_enter Try.func4, Try.ntmps4
      go_wp2_with fail
      refine (Great12_anyH _ _ _ _ hn).mono ?_
      rw [G1.out]
      rintro e w' ⟨rfl, rfl⟩
      go_wp2_with fail
      refine (wakes12_any _).mono ?_
      rintro e w4 ⟨rfl, hb4⟩
      replace hb := hb.trans (hb4.mono hb.size)
      go_wp2_with fail
      go_ret
      exact ⟨rfl, hb⟩
    · have G1 : Hid (decide (100 < n) = false) := (by show _ = _; simp; omega)
      have d1 : decide (age < 1) = false := by simp; omega
      have d2 : decide (1000 < age) = true := by simp; omega
      clear h0 h1 h2
      go_enter Try.func4, Try.ntmps4
      go_wp2_with fail
      refine (Great12_anyH _ _ _ _ hn).mono ?_
      rw [G1.out]
      rintro e w' ⟨rfl, rfl⟩
      go_wp2_with fail
      refine (wakes12_any _).mono ?_
      rintro e w4 ⟨rfl, hb4⟩
      replace hb := hb.trans (hb4.mono hb.size)
      go_wp2_with fail
      go_ret
      exact ⟨rfl, hb⟩
    · have G1 : Hid (decide (100 < n) = false) := (by show _ = _; simp; omega)
      have d1 : decide (age < 1) = false := by simp; omega
      have d2 : decide (1000 < age) = false := by simp; omega
      have d3 : decide (now < 0) = true := by simp; omega
      clear h0 h1 h2 h3
      go_enter Try.func4, Try.ntmps4
      go_wp2_with fail
      refine (Great12_anyH _ _ _ _ hn).mono ?_
      rw [G1.out]
      rintro e w' ⟨rfl, rfl⟩
      go_wp2_with fail
      refine (wakes12_any _).mono ?_
      rintro e w4 ⟨rfl, hb4⟩
      replace hb := hb.trans (hb4.mono hb.size)
      go_wp2_with fail
      go_ret
      exact ⟨rfl, hb⟩
    · have G1 : Hid (decide (100 < n) = false) := (by show _ = _; simp; omega)
      have d1 : decide (age < 1) = false := by simp; omega
      have d2 : decide (1000 < age) = false := by simp; omega
      have d3 : decide (now < 0) = false := by simp; omega
      have d4 : decide (1048576 < now) = true := by simp; omega
      clear h0 h1 h2 h3 h4
      go_enter Try.func4, Try.ntmps4
      go_wp2_with fail
      refine (Great12_anyH _ _ _ _ hn).mono ?_
      rw [G1.out]
      rintro e w' ⟨rfl, rfl⟩
      go_wp2_with fail
      refine (wakes12_any _).mono ?_
      rintro e w4 ⟨rfl, hb4⟩
      replace hb := hb.trans (hb4.mono hb.size)
      go_wp2_with fail
      go_ret
      exact ⟨rfl, hb⟩
end Go.Proofs.Ytgpijomnnnjgkaa
