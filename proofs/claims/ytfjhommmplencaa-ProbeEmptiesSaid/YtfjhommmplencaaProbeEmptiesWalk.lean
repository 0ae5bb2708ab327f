/-
  The walk of the statement ProbeEmpties. Conditions: none.
-/
import Derived.Test.YtfjhommmplencaaProbePartsWalk
namespace Go.Proofs.Ytfjhommmplencaa
open Go.RowKit Go.Shelf

theorem topN_spec (l : List Re) (dead : List Int) (long now : Int) : ∀ k, k ≤ l.length → (∀ i x, topN dead long now l k ≤ i → i < k → l[i]? = some x → spentR dead long now x = true) ∧ (topN dead long now l k = 0 ∨ ∃ x, l[topN dead long now l k - 1]? = some x ∧ spentR dead long now x = false)
  | 0, _ => ⟨fun i x _ h => by omega, .inl rfl⟩
  | k + 1, hk => by
    obtain ⟨h1, h2⟩ := topN_spec l dead long now k (by omega)
    have hx : l[k]? = some (l[k]'(by omega)) := List.getElem?_eq_getElem (by omega)
    cases hp : spentR dead long now (l[k]'(by omega))
    · rw [topN_good hx hp]
      exact ⟨fun i x h3 h4 => by omega, .inr ⟨_, by rw [Nat.add_sub_cancel]; exact hx, hp⟩⟩
    · rw [topN_spent hx hp]
      refine ⟨fun i x h3 h4 h5 => ?_, h2⟩
      rcases Nat.lt_or_ge i k with h6 | h6
      · exact h1 i x h3 h6 h5
      · obtain rfl : i = k := by omega
        rw [hx] at h5
        injection h5 with h5
        rw [← h5]
        exact hp
theorem topN_take {l : List Re} {dead : List Int} {long now : Int} {r : Nat} : ∀ k, k ≤ r → topN dead long now (l.take r) k = topN dead long now l k
  | 0, _ => rfl
  | k + 1, h => by
    have ih := topN_take (l := l) (dead := dead) (long := long) (now := now) k (show k ≤ r by omega)
    unfold topN
    rw [List.getElem?_take_of_lt (by omega), ih]
theorem topJ_take {l : List Re} (dead : List Int) (long now : Int) {r : Nat} (h : r ≤ l.length) : topJ (l.take r) dead long now = topN dead long now l r := by
  unfold topJ
  rw [List.length_take, Nat.min_eq_left h, topN_take r (Nat.le_refl _)]
theorem take_spent {l : List Re} {dead : List Int} {long now : Int} {J : Nat} : ∀ r, J ≤ r → r ≤ l.length → (∀ i x, J ≤ i → i < r → l[i]? = some x → spentR dead long now x = true) →
    goodL (l.take r) dead long now = goodL (l.take J) dead long now ∧ (outL (l.take r) dead long now).length = (outL (l.take J) dead long now).length + (r - J)
  | 0, h, _, _ => by obtain rfl : J = 0 := by omega
                     exact ⟨rfl, rfl⟩
  | r + 1, h, hr, hall => by
    rcases Nat.lt_or_ge J (r + 1) with h1 | h1
    · obtain ⟨e1, e2⟩ := take_spent r (by omega) (by omega) (fun i x h2 h3 hx => hall i x h2 (by omega) hx)
      have hx : l[r]? = some (l[r]'(by omega)) := List.getElem?_eq_getElem (by omega)
      have hp := hall r _ (by omega) (by omega) hx
      rw [goodL_snoc dead long now hx, outL_snoc dead long now hx, if_pos hp, if_pos hp, List.length_append, e1, e2]
      exact ⟨rfl, by simp; omega⟩
    · obtain rfl : J = r + 1 := by omega
      exact ⟨rfl, by simp⟩

set_option maxRecDepth 100000 in
set_option maxHeartbeats 8000000 in
theorem ProbeEmpties_in (A1 A3 : Option Addr) (n1 n3 c1 c3 : Nat) (l : List Re) (dead : List Int) (age now : Int) (w : World)
    (hl : Res w w.heap.size A1 n1 l) (hs : Ints w w.heap.size A3 n3 dead) (h1 : n1 ≤ 100) (h3 : n3 ≤ 100) (hc1 : n1 ≤ c1) :
    Calls Try.prog 4 #[.slice A1 n1 c1, .int .i64 age, .int .i64 now, .slice A3 n3 c3] w fun e w' => e = .returned (.bool true) ∧ Below w.heap.size w w' := by
  have G1 : Hid ((decide (100 < n1) || decide (100 < n3)) = false) := (by show _ = _; rw [decide_eq_false (by omega), decide_eq_false (by omega)]; rfl)
  have HL := Lib.hid hl.1
  obtain ⟨G, hG⟩ : ∃ G, G = goodL l dead age now := ⟨_, rfl⟩
  obtain ⟨O, hO⟩ : ∃ O, O = outL l dead age now := ⟨_, rfl⟩
  obtain ⟨g, hg⟩ : ∃ g, G.length = g := ⟨_, rfl⟩
  obtain ⟨o, ho⟩ : ∃ o, O.length = o := ⟨_, rfl⟩
  have hgo : g + o = n1 := by rw [← hg, ← ho, hG, hO, parts_all, hl.1]
  have gle : g ≤ 100 := by omega
  have ole : o ≤ 100 := by omega
  have HG := Lib.hid hG
  have HO := Lib.hid hO
  have Hg := Lib.hid hg
  have Ho := Lib.hid ho
  have hb : Below w.heap.size w w := Below.refl _ _
  have hn0 : IntKind.i64.wrap ((g : Int) - 1) = (g : Int) - 1 := IntWalk.i64_in _ (by omega)
  clear hG hO hg ho hgo
  go_enter Try.func4, Try.ntmps4
  go_wp2_with fail
  refine (Great22_any _ _ _ _ _ _ _ (by omega) (by omega)).mono ?_
  rw [G1.out]
  rintro e w' ⟨rfl, rfl⟩
  go_wp2_with fail
  refine (Sift_any _ _ _ l age now _ _ _ dead _ hl (by omega) hs (by omega)).mono ?_
  rw [← HG.out, ← HO.out, Hg.out, Ho.out]
  rintro e w1 ⟨B1, k1, B2, k2, rfl, o1, o2, hbx⟩
  have r1 := o1.recs
  replace hl := (hl.below hbx).more hbx.size
  replace hs := (hs.below hbx).more hbx.size
  replace hb := hb.trans (hbx.mono hb.size)
  clear hbx o1 o2
  go_wp2_with fail
  clear hn0
  go_loopw [11, 12, 13] (fun s11 s12 s13 wr => ∃ (m r q : Nat) (A : Option Addr) (c : Nat), m ≤ g ∧ r ≤ n1 ∧ q ≤ o ∧ r ≤ c ∧ s13 = .int .i64 ((m : Int) - 1) ∧ s12 = .slice A r c ∧ s11 = .int .i64 q ∧ Res wr wr.heap.size A r (l.take r) ∧ Hid ((goodL (l.take r) dead age now).length = m) ∧ Hid (q + (outL (l.take r) dead age now).length = o) ∧ Below w1.heap.size w1 wr) (fun _ _ s13 _ => (intOf s13 + 1).toNat)
  case atStart => exact ⟨g, n1, 0, A1, c1, Nat.le_refl _, Nat.le_refl _, Nat.zero_le _, hc1, rfl, rfl, rfl, by rw [List.take_of_length_le (by rw [HL.out]; omega)]; exact hl, by show _ = _; rw [List.take_of_length_le (by rw [HL.out]; omega), ← HG.out]; exact Hg.out, by show _ = _; rw [List.take_of_length_le (by rw [HL.out]; omega), ← HO.out, Nat.zero_add]; exact Ho.out, Below.refl _ _⟩
  case round =>
    obtain ⟨m, r, q, A, c, hm, hr, hq, hrc, rfl, rfl, rfl, hrow, hgm, hqo, hbr⟩ := hrel
    replace hs := (hs.below hbr).more hbr.size
    replace hb := hb.trans (hbr.mono hb.size)
    obtain ⟨J, hJ⟩ : ∃ J, J = topN dead age now l r := ⟨_, rfl⟩
    have hspec := topN_spec l dead age now r (by rw [HL.out]; exact hr)
    have hjr := topN_le l dead age now r
    have htj := topJ_take (l := l) dead age now (r := r) (by rw [HL.out]; exact hr)
    rw [← hJ] at hspec hjr htj
    have hts := take_spent r hjr (by rw [HL.out]; exact hr) hspec.1
    have HTJ := Lib.hid htj
    clear htj hJ
    by_cases hgo : 0 < m
    · have hJ0 : 0 < J := by
        rcases Nat.eq_zero_or_pos J with h0 | h0
        · exfalso
          have h2 := hts.1
          rw [h0] at h2
          have h3 := hgm.out
          rw [h2] at h3
          simp [goodL] at h3
          omega
        · exact h0
      obtain ⟨x, hx, hp⟩ : ∃ x, l[J - 1]? = some x ∧ spentR dead age now x = false := by
        rcases hspec.2 with h | h
        · omega
        · exact h
      have hgx := goodL_snoc dead age now hx
      have hox := outL_snoc dead age now hx
      rw [hp, show J - 1 + 1 = J by omega] at hgx hox
      simp only [Bool.false_eq_true, if_false] at hgx hox
      have hat := goodL_at hx hp
      have hga : (goodL (l.take (J - 1)) dead age now).length = m - 1 := by
        have h2 := hgm.out
        rw [hts.1, hgx, List.length_append] at h2
        simp at h2
        omega
      rw [hga, ← HG.out] at hat
      have hqa : q + (r - J) + (outL (l.take (J - 1)) dead age now).length = o := by
        have h2 := hqo.out
        rw [hts.2, hox] at h2
        omega
      obtain ⟨a, ha⟩ : ∃ a, J - 1 = a := ⟨_, rfl⟩
      obtain ⟨d, hd⟩ : ∃ d, r - J = d := ⟨_, rfl⟩
      have hard : a + d + 1 = r := by omega
      have hsock : topS (l.take r) J = x.1 := by
        unfold topS
        rw [if_pos hJ0, List.getD_eq_getElem?_getD, List.getElem?_take_of_lt (by omega), hx]
        rfl
      have htk : (l.take r).take a = l.take a := by rw [List.take_take, Nat.min_eq_left (by omega)]
      rw [ha] at hga hqa hx
      rw [hd] at hqa
      have HA := Lib.hid ha
      have HD := Lib.hid hd
      have HS := Lib.hid hsock
      have HTK := Lib.hid htk
      have HQ : Hid (decide (0 < J) = true) := by show _ = _; simpa using hJ0
      have HGA := Lib.hid hga
      have HQA := Lib.hid hqa
      have hmg : m - 1 < g := by omega
      obtain ⟨b2, off2, y, rfl, hbb2, hy, hd1, hd2⟩ := Res.cells (r1.below hbr) hmg
      obtain rfl : y = x := by have h1 := hy.out; rw [hat] at h1; injection h1 with h1; exact h1.symm
      have i1 : (1 : Int) ≤ (m : Int) := by omega
      have i2 : (0 : Int) ≤ (m : Int) - 1 := by omega
      have i3 : (m : Int) - 1 < (g : Int) := by omega
      have i5 : ((m : Int) - 1).toNat = m - 1 := by omega
      have e1 : ((a : Int) + (d : Int) + 1 != (r : Int)) = false := by simp; omega
      have al : a ≤ 100 := by omega
      have har : a ≤ n1 := by omega
      have dl : d ≤ 100 := by omega
      have hqd : q + d ≤ o := by omega
      clear ha hd hsock htk hga hqa hat hgx hox hp hx hspec hts hard
      go_wp2_with fail
      refine (Top_any _ _ _ (l.take r) age now _ _ _ dead _ hrow (by omega) hrc hs (by omega)).mono ?_
      rw [HTJ.out, HS.out, HA.out, HD.out, HQ.out, HTK.out]
      rintro e w3 ⟨B5, k5, B6, k6, rfl, o1, o2, hbx⟩
      have r5 := o1.recs
      have ck := o1.2.2.1
      replace hbr := hbr.trans (hbx.mono hbr.size)
      replace hd1 := (hbx.cell (p := ⟨b2, off2 + (m - 1) * 2, none⟩) (block_lt_of_cell hd1)).trans hd1
      replace hd2 := (hbx.cell (p := ⟨b2, off2 + (m - 1) * 2 + 1, none⟩) (block_lt_of_cell hd2)).trans hd2
      clear hbx o1 o2 hrow hs
      go_wp2_with fail
      go_roundw
      case rel => exact ⟨m - 1, a, q + d, B5, k5, by omega, by omega, hqd, ck, by congr 1; omega, rfl, by go_num, r5, HGA.out, HQA.out, hbr⟩
      case measure => simp [intOf]; omega
    · have hm0 : m = 0 := by omega
      have hJ0 : J = 0 := by
        rcases hspec.2 with h | ⟨x, hx, hp⟩
        · exact h
        · rcases Nat.eq_zero_or_pos J with h0 | h0
          · exact h0
          · exfalso
            have hgx := goodL_snoc dead age now hx
            rw [hp, show J - 1 + 1 = J by omega] at hgx
            simp only [Bool.false_eq_true, if_false] at hgx
            have h2 := hgm.out
            rw [hts.1, hgx, List.length_append] at h2
            simp at h2
            omega
      have hqr : q + r = o := by
        have h2 := hqo.out
        rw [hts.2, hJ0] at h2
        simp [outL] at h2
        exact h2
      have HJ0 := Lib.hid hJ0
      have e1 : ((q : Int) + (r : Int) == (o : Int)) = true := by simp; omega
      have e2 : ((r : Int) == (r : Int)) = true := by simp
      have e3 : decide ((0 : Int) ≤ (m : Int) - 1) = false := by simp; omega
      have e4 : decide ((1 : Int) ≤ (m : Int)) = false := by simp; omega
      clear hJ0 hm0 hqr hspec hts hgo hjr
      go_wp2_with fail
      refine (Top_any _ _ _ (l.take r) age now _ _ _ dead _ hrow (by omega) hrc hs (by omega)).mono ?_
      rw [HTJ.out, HJ0.out, Nat.zero_sub, Nat.sub_zero, show topS (l.take r) 0 = -1 from rfl, show decide (0 < 0) = false from rfl]
      rintro e w3 ⟨B5, k5, B6, k6, rfl, o1, o2, hbx⟩
      replace hb := hb.trans (hbx.mono hb.size)
      clear hbx o1 o2 hrow hs
      go_wp2_with fail
      refine (wakes22_any _).mono ?_
      rintro e w4 ⟨rfl, hbx⟩
      replace hb := hb.trans (hbx.mono hb.size)
      go_wp2_with fail
      go_ret
      exact ⟨rfl, hb⟩

set_option maxRecDepth 100000 in
set_option maxHeartbeats 2000000 in
theorem ProbeEmpties_walk (A1 : Option Addr) (n1 c1 : Nat) (l : List Re) (age now : Int) (A3 : Option Addr) (n3 c3 : Nat) (dead : List Int) (w : World)
    (hl : Res w w.heap.size A1 n1 l) (_o1 : ∀ x ∈ l, okRe x) (h1 : n1 ≤ 9223372036854775807) (q1 : n1 ≤ c1) (hs : Ints w w.heap.size A3 n3 dead) (h3 : n3 ≤ 9223372036854775807) :
    Calls Try.prog 4 #[.slice A1 n1 c1, .int .i64 age, .int .i64 now, .slice A3 n3 c3] w fun e w' => e = .returned (.bool true) ∧ Below w.heap.size w w' := by
  cases g1 : (decide (100 < n1) || decide (100 < n3))
  · simp only [Bool.or_eq_false_iff, decide_eq_false_iff_not] at g1
    exact ProbeEmpties_in A1 A3 n1 n3 c1 c3 l dead age now w hl hs (by omega) (by omega) q1
  · have G1 := Lib.hid g1
    clear g1
    go_enter Try.func4, Try.ntmps4
    go_wp2_with fail
    refine (Great22_any _ _ _ _ _ _ _ h1 h3).mono ?_
    rw [G1.out]
    rintro e w' ⟨rfl, rfl⟩
    go_wp2_with fail
    refine (wakes22_any _).mono ?_
    rintro e w4 ⟨rfl, hb4⟩
    go_wp2_with fail
    go_ret
    exact ⟨rfl, hb4⟩
end Go.Proofs.Ytfjhommmplencaa
