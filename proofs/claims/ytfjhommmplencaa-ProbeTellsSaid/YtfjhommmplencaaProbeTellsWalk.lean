/-
  The walk of the statement ProbeTells. Conditions: none.
-/
import Derived.Test.YtfjhommmplencaaProbeWakes
import Derived.Test.YtfjhommmplencaaOpenRe
import Derived.BigQuiet
namespace Go.Proofs.Ytfjhommmplencaa
open Go.RowKit Go.Shelf

theorem rSame22_same (A1 A2 : Option Addr) (n c1 c2 B1 B2 : Nat) (a : List Re) (w : World) (ha : Res w B1 A1 n a) (hb : Res w B2 A2 n a) (hn : n ≤ 100000) :
    Calls Try.prog 13 #[.slice A1 n c1, .slice A2 n c2] w fun e w' => e = .returned (.bool true) ∧ Below w.heap.size w w' :=
  (rSame22_any A1 A2 n n c1 c2 B1 B2 a a w ha hb hn hn).mono fun e w' ⟨h1, h2⟩ => ⟨by rw [h1]; simp, h2⟩

set_option maxRecDepth 100000 in
set_option maxHeartbeats 8000000 in
theorem ProbeTells_in (A1 A2 A3 : Option Addr) (n1 n2 n3 c1 c2 c3 : Nat) (l m : List Re) (dead : List Int) (age now : Int) (w : World)
    (hl : Res w w.heap.size A1 n1 l) (hm : Res w w.heap.size A2 n2 m) (hs : Ints w w.heap.size A3 n3 dead) (h1 : n1 ≤ 100) (h2 : n2 ≤ 100) (h3 : n3 ≤ 100) (hc1 : n1 ≤ c1) :
    Calls Try.prog 6 #[.slice A1 n1 c1, .slice A2 n2 c2, .int .i64 age, .int .i64 now, .slice A3 n3 c3] w fun e w' => e = .returned (.bool true) ∧ Below w.heap.size w w' := by
  have G1 : Hid ((decide (100 < n1) || decide (100 < n3)) = false) := (by show _ = _; rw [decide_eq_false (by omega), decide_eq_false (by omega)]; rfl)
  have G2 : Hid ((decide (100 < n2) || decide (100 < 0)) = false) := (by show _ = _; rw [decide_eq_false (by omega)]; rfl)
  have HL := Lib.hid hl.1
  obtain ⟨G, hG⟩ : ∃ G, G = goodL l dead age now := ⟨_, rfl⟩
  obtain ⟨O, hO⟩ : ∃ O, O = outL l dead age now := ⟨_, rfl⟩
  obtain ⟨J, hJ⟩ : ∃ J, J = topJ l dead age now := ⟨_, rfl⟩
  obtain ⟨S, hS⟩ : ∃ S, S = topS l J := ⟨_, rfl⟩
  obtain ⟨T, hT⟩ : ∃ T, T = topO l J := ⟨_, rfl⟩
  obtain ⟨q, hq⟩ : ∃ q, q = decide (0 < J) := ⟨_, rfl⟩
  obtain ⟨F, hF⟩ : ∃ F, F = (firstOf (endsOf l age)).2 := ⟨_, rfl⟩
  obtain ⟨q2, hq2⟩ : ∃ q, q = decide (0 < n1) := ⟨_, rfl⟩
  obtain ⟨q3, hq3⟩ : ∃ q, q = decide (l = m) := ⟨_, rfl⟩
  have hGn : G.length ≤ 100 := by rw [hG]; exact Nat.le_trans (goodL_le _ _ _ _) (by rw [hl.1]; exact h1)
  have hOn : O.length ≤ 100 := by rw [hO]; exact Nat.le_trans (outL_le _ _ _ _) (by rw [hl.1]; exact h1)
  have HG := Lib.hid hG
  have HO := Lib.hid hO
  have HJ := Lib.hid hJ
  have HS := Lib.hid hS
  have HT := Lib.hid hT
  have HQ := Lib.hid hq
  have HF := Lib.hid hF
  have HQ2 := Lib.hid hq2
  have HQ3 := Lib.hid hq3
  have HJS := Lib.hid (show J - 1 ≤ 100 ∨ 100 < J - 1 from by omega)
  have b0 : (S != S) = false := by simp
  have b1 : (q != q) = false := by simp
  have b2 : (q2 == q2) = true := by simp
  have b3 : (q3 == q3) = true := by simp
  have b4 : (F == F) = true := by simp
  have b5 : ((F : Int) == F) = true := by simp
  have hb : Below w.heap.size w w := Below.refl _ _
  have hJn : J ≤ n1 := by
    rw [hJ]
    have : ∀ k, topN dead age now l k ≤ k := by
      intro k
      induction k with
      | zero => exact Nat.le_refl _
      | succ k ih =>
        unfold topN
        split
        · split
          · omega
          · exact Nat.le_refl _
        · omega
    have h := this l.length
    rw [hl.1] at h
    unfold topJ
    rw [hl.1]
    exact h
  clear hG hO hJ hS hT hq hF hq2 hq3
  go_enter Try.func6, Try.ntmps6
  go_wp2_with fail
  refine (Great22_any _ _ _ _ _ _ _ (by omega) (by omega)).mono ?_
  rw [G1.out]
  rintro e w' ⟨rfl, rfl⟩
  go_wp2_with fail
  refine (Great22_any _ _ _ _ _ _ _ (by omega) (by omega)).mono ?_
  rw [G2.out]
  rintro e w' ⟨rfl, rfl⟩
  go_wp2_with fail
  refine (Sift_any _ _ _ l age now _ _ _ dead _ hl (by omega) hs (by omega)).mono ?_
  rw [← HG.out, ← HO.out]
  rintro e w1 ⟨B1, k1, B2, k2, rfl, o1, o2, hbx⟩
  have r1 := o1.recs
  have r2 := o2.ints
  clear o1 o2
  replace hl := (hl.below hbx).more hbx.size
  replace hm := (hm.below hbx).more hbx.size
  replace hs := (hs.below hbx).more hbx.size
  replace hb := hb.trans (hbx.mono hb.size)
  clear hbx
  go_wp2_with fail
  refine (rSift_any _ _ _ l age now _ _ _ dead _ hl (by omega) hs (by omega)).mono ?_
  rw [← HG.out, ← HO.out]
  rintro e w2 ⟨B3, k3, B4, k4, rfl, o1, o2, hbx⟩
  have r3 := o1.recs
  have r4 := o2.ints
  clear o1 o2
  replace hl := (hl.below hbx).more hbx.size
  replace hm := (hm.below hbx).more hbx.size
  replace hs := (hs.below hbx).more hbx.size
  replace r1 := (r1.below hbx).more hbx.size
  replace r2 := (r2.below hbx).more hbx.size
  replace hb := hb.trans (hbx.mono hb.size)
  clear hbx
  go_wp2_with fail
  refine (rSame22_same _ _ _ _ _ _ _ G _ r1 r3 (by omega)).mono ?_
  rintro e w3 ⟨rfl, hbx⟩
  replace hl := (hl.below hbx).more hbx.size
  replace hm := (hm.below hbx).more hbx.size
  replace hs := (hs.below hbx).more hbx.size
  replace r2 := (r2.below hbx).more hbx.size
  replace r4 := (r4.below hbx).more hbx.size
  replace hb := hb.trans (hbx.mono hb.size)
  clear hbx
  go_wp2_with fail
  refine (rSame4_same _ _ _ _ _ _ _ O _ r2 r4 (by omega)).mono ?_
  rintro e w4 ⟨rfl, hbx⟩
  replace hl := (hl.below hbx).more hbx.size
  replace hm := (hm.below hbx).more hbx.size
  replace hs := (hs.below hbx).more hbx.size
  replace hb := hb.trans (hbx.mono hb.size)
  clear hbx
  clear r1 r2 r3 r4
  go_wp2_with fail
  refine (Top_any _ _ _ l age now _ _ _ dead _ hl (by omega) hc1 hs (by omega)).mono ?_
  rw [← HJ.out, ← HS.out, ← HT.out, ← HQ.out]
  rintro e w5 ⟨B1, k1, B2, k2, rfl, o1, o2, hbx⟩
  have r1 := o1.recs
  have r2 := o2.ints
  clear o1 o2
  replace hl := (hl.below hbx).more hbx.size
  replace hm := (hm.below hbx).more hbx.size
  replace hs := (hs.below hbx).more hbx.size
  replace hb := hb.trans (hbx.mono hb.size)
  clear hbx
  go_wp2_with fail
  refine (rTop_any _ _ _ l age now _ _ _ dead _ hl (by omega) hc1 hs (by omega)).mono ?_
  rw [← HJ.out, ← HS.out, ← HT.out, ← HQ.out]
  rintro e w6 ⟨B3, k3, B4, k4, rfl, o1, o2, hbx⟩
  have r3 := o1.recs
  have r4 := o2.ints
  clear o1 o2
  replace hl := (hl.below hbx).more hbx.size
  replace hm := (hm.below hbx).more hbx.size
  replace hs := (hs.below hbx).more hbx.size
  replace r1 := (r1.below hbx).more hbx.size
  replace r2 := (r2.below hbx).more hbx.size
  replace hb := hb.trans (hbx.mono hb.size)
  clear hbx
  go_wp2_with fail
  refine (rSame22_same _ _ (J - 1) _ _ _ _ (l.take (J - 1)) _ r1 r3 (by omega)).mono ?_
  rintro e w7 ⟨rfl, hbx⟩
  replace hl := (hl.below hbx).more hbx.size
  replace hm := (hm.below hbx).more hbx.size
  replace hs := (hs.below hbx).more hbx.size
  replace r2 := (r2.below hbx).more hbx.size
  replace r4 := (r4.below hbx).more hbx.size
  replace hb := hb.trans (hbx.mono hb.size)
  clear hbx
  go_wp2_with fail
  refine (rSame4_same _ _ (n1 - J) _ _ _ _ T _ r2 r4 (by omega)).mono ?_
  rintro e w8 ⟨rfl, hbx⟩
  replace hl := (hl.below hbx).more hbx.size
  replace hm := (hm.below hbx).more hbx.size
  replace hs := (hs.below hbx).more hbx.size
  replace hb := hb.trans (hbx.mono hb.size)
  clear hbx
  clear r1 r2 r3 r4
  go_wp2_with fail
  go_loopw [19] (fun s19 wr => ∃ i : Nat, i ≤ n1 ∧ s19 = .int .i64 i ∧ Below w8.heap.size w8 wr) (fun s19 _ => n1 - (intOf s19).toNat)
  case atStart => exact ⟨0, Nat.zero_le _, rfl, Below.refl _ _⟩
  case round =>
    obtain ⟨i, hi, rfl, hbr⟩ := hrel
    replace hb := hb.trans (hbr.mono hb.size)
    replace hl := (hl.below hbr).more hbr.size
    replace hm := (hm.below hbr).more hbr.size
    replace hs := (hs.below hbr).more hbr.size
    by_cases hgo : i < n1
    · obtain ⟨b1, off1, x, rfl, hbb1, hx, hc1, hc2⟩ := Res.cells hl hgo
      obtain ⟨p, hp⟩ : ∃ p, p = spentR dead age now x := ⟨_, rfl⟩
      have HP := Lib.hid hp
      have bp : (p != p) = false := by simp
      clear hp
      go_upto_region 14 with fail
      have hS : Below wr.heap.size wr wr.drew := (Below.refl _ _).drew
      refine wp_region_held_drew (S := (fun wx => Below wr.heap.size wr wx)) (by kernel_rfl) ?_ (fun hHeld => ?_)
      · (try dsimp only); first | done | (exact hS)
      first
        | (refine wpAnyH_take (i := 0) (v := ?_) rfl (by kernel_rfl) (by kernel_rfl) (by kernel_rfl) (fun _ _ _ h => h) (Or.inl ⟨by rfl, ?_⟩) hHeld ?_; rotate_left; (intro wq hSw; (try dsimp only at hSw); go_simp; done))
        | (refine wpAnyH_take (i := 0) (v := ?_) rfl (by kernel_rfl) (by kernel_rfl) (by kernel_rfl) (fun _ _ _ h => h) (Or.inl ⟨by rfl, ?_⟩) hHeld ?_; rotate_left; (intro wq hSw; (try dsimp only at hSw); go_simp; with_reducible rfl))
        | refine wpAnyH_take (i := 0) (v := undef) rfl (by kernel_rfl) (by kernel_rfl) (by kernel_rfl) (fun _ _ _ h => h) (Or.inr ⟨by rfl, rfl⟩) hHeld ?_
      try simp only [Act.put, List.getElem_toArray, List.getElem_cons_succ, List.getElem_cons_zero, List.setIfInBounds_toArray, List.set_cons_zero, List.set_cons_succ]
      first
        | (refine wpAnyH_take (i := 1) (v := ?_) rfl (by kernel_rfl) (by kernel_rfl) (by kernel_rfl) (fun _ _ _ h => h) (Or.inl ⟨by rfl, ?_⟩) hHeld ?_; rotate_left; (intro wq hSw; (try dsimp only at hSw); go_simp; done))
        | (refine wpAnyH_take (i := 1) (v := ?_) rfl (by kernel_rfl) (by kernel_rfl) (by kernel_rfl) (fun _ _ _ h => h) (Or.inl ⟨by rfl, ?_⟩) hHeld ?_; rotate_left; (intro wq hSw; (try dsimp only at hSw); go_simp; with_reducible rfl))
        | refine wpAnyH_take (i := 1) (v := undef) rfl (by kernel_rfl) (by kernel_rfl) (by kernel_rfl) (fun _ _ _ h => h) (Or.inr ⟨by rfl, rfl⟩) hHeld ?_
      try simp only [Act.put, List.getElem_toArray, List.getElem_cons_succ, List.getElem_cons_zero, List.setIfInBounds_toArray, List.set_cons_zero, List.set_cons_succ]
      first
        | (refine wpAnyH_take (i := 4) (v := ?_) rfl (by kernel_rfl) (by kernel_rfl) (by kernel_rfl) (fun _ _ _ h => h) (Or.inl ⟨by rfl, ?_⟩) hHeld ?_; rotate_left; (intro wq hSw; (try dsimp only at hSw); go_simp; done))
        | (refine wpAnyH_take (i := 4) (v := ?_) rfl (by kernel_rfl) (by kernel_rfl) (by kernel_rfl) (fun _ _ _ h => h) (Or.inl ⟨by rfl, ?_⟩) hHeld ?_; rotate_left; (intro wq hSw; (try dsimp only at hSw); go_simp; with_reducible rfl))
        | refine wpAnyH_take (i := 4) (v := undef) rfl (by kernel_rfl) (by kernel_rfl) (by kernel_rfl) (fun _ _ _ h => h) (Or.inr ⟨by rfl, rfl⟩) hHeld ?_
      try simp only [Act.put, List.getElem_toArray, List.getElem_cons_succ, List.getElem_cons_zero, List.setIfInBounds_toArray, List.set_cons_zero, List.set_cons_succ]
      first
        | (refine wpAnyH_take (i := 5) (v := ?_) rfl (by kernel_rfl) (by kernel_rfl) (by kernel_rfl) (fun _ _ _ h => h) (Or.inl ⟨by rfl, ?_⟩) hHeld ?_; rotate_left; (intro wq hSw; (try dsimp only at hSw); go_simp; done))
        | (refine wpAnyH_take (i := 5) (v := ?_) rfl (by kernel_rfl) (by kernel_rfl) (by kernel_rfl) (fun _ _ _ h => h) (Or.inl ⟨by rfl, ?_⟩) hHeld ?_; rotate_left; (intro wq hSw; (try dsimp only at hSw); go_simp; with_reducible rfl))
        | refine wpAnyH_take (i := 5) (v := undef) rfl (by kernel_rfl) (by kernel_rfl) (by kernel_rfl) (fun _ _ _ h => h) (Or.inr ⟨by rfl, rfl⟩) hHeld ?_
      try simp only [Act.put, List.getElem_toArray, List.getElem_cons_succ, List.getElem_cons_zero, List.setIfInBounds_toArray, List.set_cons_zero, List.set_cons_succ]
      first
        | (refine wpAnyH_take (i := 6) (v := ?_) rfl (by kernel_rfl) (by kernel_rfl) (by kernel_rfl) (fun _ _ _ h => h) (Or.inl ⟨by rfl, ?_⟩) hHeld ?_; rotate_left; (intro wq hSw; (try dsimp only at hSw); go_simp; done))
        | (refine wpAnyH_take (i := 6) (v := ?_) rfl (by kernel_rfl) (by kernel_rfl) (by kernel_rfl) (fun _ _ _ h => h) (Or.inl ⟨by rfl, ?_⟩) hHeld ?_; rotate_left; (intro wq hSw; (try dsimp only at hSw); go_simp; with_reducible rfl))
        | refine wpAnyH_take (i := 6) (v := undef) rfl (by kernel_rfl) (by kernel_rfl) (by kernel_rfl) (fun _ _ _ h => h) (Or.inr ⟨by rfl, rfl⟩) hHeld ?_
      try simp only [Act.put, List.getElem_toArray, List.getElem_cons_succ, List.getElem_cons_zero, List.setIfInBounds_toArray, List.set_cons_zero, List.set_cons_succ]
      first
        | (refine wpAnyH_take (i := 8) (v := ?_) rfl (by kernel_rfl) (by kernel_rfl) (by kernel_rfl) (fun _ _ _ h => h) (Or.inl ⟨by rfl, ?_⟩) hHeld ?_; rotate_left; (intro wq hSw; (try dsimp only at hSw); go_simp; done))
        | (refine wpAnyH_take (i := 8) (v := ?_) rfl (by kernel_rfl) (by kernel_rfl) (by kernel_rfl) (fun _ _ _ h => h) (Or.inl ⟨by rfl, ?_⟩) hHeld ?_; rotate_left; (intro wq hSw; (try dsimp only at hSw); go_simp; with_reducible rfl))
        | refine wpAnyH_take (i := 8) (v := undef) rfl (by kernel_rfl) (by kernel_rfl) (by kernel_rfl) (fun _ _ _ h => h) (Or.inr ⟨by rfl, rfl⟩) hHeld ?_
      try simp only [Act.put, List.getElem_toArray, List.getElem_cons_succ, List.getElem_cons_zero, List.setIfInBounds_toArray, List.set_cons_zero, List.set_cons_succ]
      first
        | (refine wpAnyH_take (i := 9) (v := ?_) rfl (by kernel_rfl) (by kernel_rfl) (by kernel_rfl) (fun _ _ _ h => h) (Or.inl ⟨by rfl, ?_⟩) hHeld ?_; rotate_left; (intro wq hSw; (try dsimp only at hSw); go_simp; done))
        | (refine wpAnyH_take (i := 9) (v := ?_) rfl (by kernel_rfl) (by kernel_rfl) (by kernel_rfl) (fun _ _ _ h => h) (Or.inl ⟨by rfl, ?_⟩) hHeld ?_; rotate_left; (intro wq hSw; (try dsimp only at hSw); go_simp; with_reducible rfl))
        | refine wpAnyH_take (i := 9) (v := undef) rfl (by kernel_rfl) (by kernel_rfl) (by kernel_rfl) (fun _ _ _ h => h) (Or.inr ⟨by rfl, rfl⟩) hHeld ?_
      try simp only [Act.put, List.getElem_toArray, List.getElem_cons_succ, List.getElem_cons_zero, List.setIfInBounds_toArray, List.set_cons_zero, List.set_cons_succ]
      first
        | (refine wpAnyH_take (i := 12) (v := ?_) rfl (by kernel_rfl) (by kernel_rfl) (by kernel_rfl) (fun _ _ _ h => h) (Or.inl ⟨by rfl, ?_⟩) hHeld ?_; rotate_left; (intro wq hSw; (try dsimp only at hSw); go_simp; done))
        | (refine wpAnyH_take (i := 12) (v := ?_) rfl (by kernel_rfl) (by kernel_rfl) (by kernel_rfl) (fun _ _ _ h => h) (Or.inl ⟨by rfl, ?_⟩) hHeld ?_; rotate_left; (intro wq hSw; (try dsimp only at hSw); go_simp; with_reducible rfl))
        | refine wpAnyH_take (i := 12) (v := undef) rfl (by kernel_rfl) (by kernel_rfl) (by kernel_rfl) (fun _ _ _ h => h) (Or.inr ⟨by rfl, rfl⟩) hHeld ?_
      try simp only [Act.put, List.getElem_toArray, List.getElem_cons_succ, List.getElem_cons_zero, List.setIfInBounds_toArray, List.set_cons_zero, List.set_cons_succ]
      first
        | (refine wpAnyH_take (i := 13) (v := ?_) rfl (by kernel_rfl) (by kernel_rfl) (by kernel_rfl) (fun _ _ _ h => h) (Or.inl ⟨by rfl, ?_⟩) hHeld ?_; rotate_left; (intro wq hSw; (try dsimp only at hSw); go_simp; done))
        | (refine wpAnyH_take (i := 13) (v := ?_) rfl (by kernel_rfl) (by kernel_rfl) (by kernel_rfl) (fun _ _ _ h => h) (Or.inl ⟨by rfl, ?_⟩) hHeld ?_; rotate_left; (intro wq hSw; (try dsimp only at hSw); go_simp; with_reducible rfl))
        | refine wpAnyH_take (i := 13) (v := undef) rfl (by kernel_rfl) (by kernel_rfl) (by kernel_rfl) (fun _ _ _ h => h) (Or.inr ⟨by rfl, rfl⟩) hHeld ?_
      try simp only [Act.put, List.getElem_toArray, List.getElem_cons_succ, List.getElem_cons_zero, List.setIfInBounds_toArray, List.set_cons_zero, List.set_cons_succ]
      first
        | (refine wpAnyH_take (i := 14) (v := ?_) rfl (by kernel_rfl) (by kernel_rfl) (by kernel_rfl) (fun _ _ _ h => h) (Or.inl ⟨by rfl, ?_⟩) hHeld ?_; rotate_left; (intro wq hSw; (try dsimp only at hSw); go_simp; done))
        | (refine wpAnyH_take (i := 14) (v := ?_) rfl (by kernel_rfl) (by kernel_rfl) (by kernel_rfl) (fun _ _ _ h => h) (Or.inl ⟨by rfl, ?_⟩) hHeld ?_; rotate_left; (intro wq hSw; (try dsimp only at hSw); go_simp; with_reducible rfl))
        | refine wpAnyH_take (i := 14) (v := undef) rfl (by kernel_rfl) (by kernel_rfl) (by kernel_rfl) (fun _ _ _ h => h) (Or.inr ⟨by rfl, rfl⟩) hHeld ?_
      try simp only [Act.put, List.getElem_toArray, List.getElem_cons_succ, List.getElem_cons_zero, List.setIfInBounds_toArray, List.set_cons_zero, List.set_cons_succ]
      first
        | (refine wpAnyH_take (i := 2) (v := ?_) rfl (by kernel_rfl) (by kernel_rfl) (by kernel_rfl) (fun _ _ _ h => h) (Or.inl ⟨by rfl, ?_⟩) hHeld ?_; rotate_left; (intro wq hSw; (try dsimp only at hSw); go_simp; done))
        | (refine wpAnyH_take (i := 2) (v := ?_) rfl (by kernel_rfl) (by kernel_rfl) (by kernel_rfl) (fun _ _ _ h => h) (Or.inl ⟨by rfl, ?_⟩) hHeld ?_; rotate_left; (intro wq hSw; (try dsimp only at hSw); go_simp; with_reducible rfl))
        | refine wpAnyH_take (i := 2) (v := undef) rfl (by kernel_rfl) (by kernel_rfl) (by kernel_rfl) (fun _ _ _ h => h) (Or.inr ⟨by rfl, rfl⟩) hHeld ?_
      try simp only [Act.put, List.getElem_toArray, List.getElem_cons_succ, List.getElem_cons_zero, List.setIfInBounds_toArray, List.set_cons_zero, List.set_cons_succ]
      first
        | (refine wpAnyH_take (i := 10) (v := ?_) rfl (by kernel_rfl) (by kernel_rfl) (by kernel_rfl) (fun _ _ _ h => h) (Or.inl ⟨by rfl, ?_⟩) hHeld ?_; rotate_left; (intro wq hSw; (try dsimp only at hSw); go_simp; done))
        | (refine wpAnyH_take (i := 10) (v := ?_) rfl (by kernel_rfl) (by kernel_rfl) (by kernel_rfl) (fun _ _ _ h => h) (Or.inl ⟨by rfl, ?_⟩) hHeld ?_; rotate_left; (intro wq hSw; (try dsimp only at hSw); go_simp; with_reducible rfl))
        | refine wpAnyH_take (i := 10) (v := undef) rfl (by kernel_rfl) (by kernel_rfl) (by kernel_rfl) (fun _ _ _ h => h) (Or.inr ⟨by rfl, rfl⟩) hHeld ?_
      try simp only [Act.put, List.getElem_toArray, List.getElem_cons_succ, List.getElem_cons_zero, List.setIfInBounds_toArray, List.set_cons_zero, List.set_cons_succ]
      first
        | (refine wpAnyH_take (i := 3) (v := ?_) rfl (by kernel_rfl) (by kernel_rfl) (by kernel_rfl) (fun _ _ _ h => h) (Or.inl ⟨by rfl, ?_⟩) hHeld ?_; rotate_left; (intro wq hSw; (try dsimp only at hSw); have v0 := (hSw.cell (p := ⟨b1, off1 + i * 2, none⟩) hbb1).trans hc1; have v1 := (hSw.cell (p := ⟨b1, off1 + i * 2 + 1, none⟩) hbb1).trans hc2; go_simp; done))
        | (refine wpAnyH_take (i := 3) (v := ?_) rfl (by kernel_rfl) (by kernel_rfl) (by kernel_rfl) (fun _ _ _ h => h) (Or.inl ⟨by rfl, ?_⟩) hHeld ?_; rotate_left; (intro wq hSw; (try dsimp only at hSw); have v0 := (hSw.cell (p := ⟨b1, off1 + i * 2, none⟩) hbb1).trans hc1; have v1 := (hSw.cell (p := ⟨b1, off1 + i * 2 + 1, none⟩) hbb1).trans hc2; go_simp; with_reducible rfl))
        | refine wpAnyH_take (i := 3) (v := undef) rfl (by kernel_rfl) (by kernel_rfl) (by kernel_rfl) (fun _ _ _ h => h) (Or.inr ⟨by rfl, rfl⟩) hHeld ?_
      try simp only [Act.put, List.getElem_toArray, List.getElem_cons_succ, List.getElem_cons_zero, List.setIfInBounds_toArray, List.set_cons_zero, List.set_cons_succ]
      first
        | (refine wpAnyH_take (i := 11) (v := ?_) rfl (by kernel_rfl) (by kernel_rfl) (by kernel_rfl) (fun _ _ _ h => h) (Or.inl ⟨by rfl, ?_⟩) hHeld ?_; rotate_left; (intro wq hSw; (try dsimp only at hSw); have v0 := (hSw.cell (p := ⟨b1, off1 + i * 2, none⟩) hbb1).trans hc1; have v1 := (hSw.cell (p := ⟨b1, off1 + i * 2 + 1, none⟩) hbb1).trans hc2; go_simp; done))
        | (refine wpAnyH_take (i := 11) (v := ?_) rfl (by kernel_rfl) (by kernel_rfl) (by kernel_rfl) (fun _ _ _ h => h) (Or.inl ⟨by rfl, ?_⟩) hHeld ?_; rotate_left; (intro wq hSw; (try dsimp only at hSw); have v0 := (hSw.cell (p := ⟨b1, off1 + i * 2, none⟩) hbb1).trans hc1; have v1 := (hSw.cell (p := ⟨b1, off1 + i * 2 + 1, none⟩) hbb1).trans hc2; go_simp; with_reducible rfl))
        | refine wpAnyH_take (i := 11) (v := undef) rfl (by kernel_rfl) (by kernel_rfl) (by kernel_rfl) (fun _ _ _ h => h) (Or.inr ⟨by rfl, rfl⟩) hHeld ?_
      try simp only [Act.put, List.getElem_toArray, List.getElem_cons_succ, List.getElem_cons_zero, List.setIfInBounds_toArray, List.set_cons_zero, List.set_cons_succ]
      refine wpAnyH_ready (rs := [7]) (by kernel_rfl) (by simp) ?_
      refine AllReadyH.cons rfl (fun K hK => ?_) AllReadyH.nil
      go_simp; go_at_call 12; refine (Spent_any x age now _ _ _ dead _ ((hs.below hS).more hS.size) (by omega)).mono ?_; rw [← HP.out]; rintro e wx ⟨rfl, hbx⟩; replace hS := hS.trans (hbx.mono hS.size); clear hbx; try go_wp2_with fail
      refine hK.out _ _ ?_ (fun hHeld => ?_)
      · (try dsimp only); first | done | (exact hS)
      clear hK K
      try simp only [Act.put, List.getElem_toArray, List.getElem_cons_succ, List.getElem_cons_zero, List.setIfInBounds_toArray, List.set_cons_zero, List.set_cons_succ]
      refine wpAnyH_ready (rs := [15]) (by kernel_rfl) (by simp) ?_
      refine AllReadyH.cons rfl (fun K hK => ?_) AllReadyH.nil
      go_simp; go_at_call 17; refine (rSpent_any x age now _ _ _ dead _ ((hs.below hS).more hS.size) (by omega)).mono ?_; rw [← HP.out]; rintro e wx ⟨rfl, hbx⟩; replace hS := hS.trans (hbx.mono hS.size); clear hbx; try go_wp2_with fail
      refine hK.out _ _ ?_ (fun hHeld => ?_)
      · (try dsimp only); first | done | (exact hS)
      clear hK K
      try simp only [Act.put, List.getElem_toArray, List.getElem_cons_succ, List.getElem_cons_zero, List.setIfInBounds_toArray, List.set_cons_zero, List.set_cons_succ]
      first
        | (refine wpAnyH_take (i := 16) (v := ?_) rfl (by kernel_rfl) (by kernel_rfl) (by kernel_rfl) (fun _ _ _ h => h) (Or.inl ⟨by rfl, ?_⟩) hHeld ?_; rotate_left; (intro wq hSw; (try dsimp only at hSw); go_simp; done))
        | (refine wpAnyH_take (i := 16) (v := ?_) rfl (by kernel_rfl) (by kernel_rfl) (by kernel_rfl) (fun _ _ _ h => h) (Or.inl ⟨by rfl, ?_⟩) hHeld ?_; rotate_left; (intro wq hSw; (try dsimp only at hSw); go_simp; with_reducible rfl))
        | refine wpAnyH_take (i := 16) (v := undef) rfl (by kernel_rfl) (by kernel_rfl) (by kernel_rfl) (fun _ _ _ h => h) (Or.inr ⟨by rfl, rfl⟩) hHeld ?_
      try simp only [Act.put, List.getElem_toArray, List.getElem_cons_succ, List.getElem_cons_zero, List.setIfInBounds_toArray, List.set_cons_zero, List.set_cons_succ]
      refine wpAnyH_done (by kernel_rfl) ?_ _
      (go_wp2_with fail; go_roundw; (case rel => exact ⟨i + 1, by omega, by go_num, hbr.trans (hS.mono hbr.size)⟩); (case measure => simp [intOf]; omega))
    · obtain rfl : i = n1 := by omega
      clear hbr
      go_wp2_with fail
      refine (When_any _ _ _ l age _ hl (by omega)).mono ?_
      rw [← HF.out, ← HQ2.out]
      rintro e w9 ⟨rfl, hbx⟩
      replace hl := (hl.below hbx).more hbx.size
      replace hm := (hm.below hbx).more hbx.size
      replace hs := (hs.below hbx).more hbx.size
      replace hb := hb.trans (hbx.mono hb.size)
      clear hbx
      go_wp2_with fail
      refine (rWhen_any _ _ _ l age _ hl (by omega)).mono ?_
      rw [← HF.out, ← HQ2.out]
      rintro e w10 ⟨rfl, hbx⟩
      replace hl := (hl.below hbx).more hbx.size
      replace hm := (hm.below hbx).more hbx.size
      replace hs := (hs.below hbx).more hbx.size
      replace hb := hb.trans (hbx.mono hb.size)
      clear hbx
      go_wp2_with fail
      refine (SameP_any _ _ _ _ _ _ l m _ hl hm (by omega) (by omega)).mono ?_
      rw [← HQ3.out]
      rintro e w11 ⟨rfl, hbx⟩
      replace hl := (hl.below hbx).more hbx.size
      replace hm := (hm.below hbx).more hbx.size
      replace hs := (hs.below hbx).more hbx.size
      replace hb := hb.trans (hbx.mono hb.size)
      clear hbx
      go_wp2_with fail
      refine (rSame22_any _ _ _ _ _ _ _ _ l m _ hl hm (by omega) (by omega)).mono ?_
      rw [← HQ3.out]
      rintro e w12 ⟨rfl, hbx⟩
      replace hl := (hl.below hbx).more hbx.size
      replace hm := (hm.below hbx).more hbx.size
      replace hs := (hs.below hbx).more hbx.size
      replace hb := hb.trans (hbx.mono hb.size)
      clear hbx
      go_wp2_with fail
      refine (wakes22_any _).mono ?_
      rintro e w13 ⟨rfl, hbx⟩
      replace hb := hb.trans (hbx.mono hb.size)
      clear hbx
      go_wp2_with fail
      go_ret
      exact ⟨rfl, hb⟩

set_option maxRecDepth 100000 in
set_option maxHeartbeats 2000000 in
theorem ProbeTells_walk (A1 : Option Addr) (n1 c1 : Nat) (l : List Re) (A2 : Option Addr) (n2 c2 : Nat) (m : List Re) (age now : Int) (A3 : Option Addr) (n3 c3 : Nat) (dead : List Int) (w : World)
    (hl : Res w w.heap.size A1 n1 l) (_o1 : ∀ x ∈ l, okRe x) (h1 : n1 ≤ 9223372036854775807) (q1 : n1 ≤ c1) (hm : Res w w.heap.size A2 n2 m) (_o2 : ∀ x ∈ m, okRe x) (h2 : n2 ≤ 9223372036854775807) (_q2 : n2 ≤ c2) (hs : Ints w w.heap.size A3 n3 dead) (h3 : n3 ≤ 9223372036854775807) :
    Calls Try.prog 6 #[.slice A1 n1 c1, .slice A2 n2 c2, .int .i64 age, .int .i64 now, .slice A3 n3 c3] w fun e w' => e = .returned (.bool true) ∧ Below w.heap.size w w' := by
  cases g1 : (decide (100 < n1) || decide (100 < n3))
  · cases g2 : (decide (100 < n2) || decide (100 < 0))
    · simp only [Bool.or_eq_false_iff, decide_eq_false_iff_not] at g1 g2
      exact ProbeTells_in A1 A2 A3 n1 n2 n3 c1 c2 c3 l m dead age now w hl hm hs (by omega) (by omega) (by omega) q1
    · have G1 := Lib.hid g1
      have G2 := Lib.hid g2
      clear g1 g2
      go_enter Try.func6, Try.ntmps6
      go_wp2_with fail
      refine (Great22_any _ _ _ _ _ _ _ h1 h3).mono ?_
      rw [G1.out]
      rintro e w' ⟨rfl, rfl⟩
      go_wp2_with fail
      refine (Great22_any _ _ _ _ _ _ _ h2 (by omega)).mono ?_
      rw [G2.out]
      rintro e w' ⟨rfl, rfl⟩
      go_wp2_with fail
      refine (wakes22_any _).mono ?_
      rintro e w4 ⟨rfl, hb4⟩
      go_wp2_with fail
      go_ret
      exact ⟨rfl, hb4⟩
  · have G1 := Lib.hid g1
    clear g1
    go_enter Try.func6, Try.ntmps6
    go_wp2_with fail
    refine (Great22_any _ _ _ _ _ _ _ h1 h3).mono ?_
    rw [G1.out]
    rintro e w' ⟨rfl, rfl⟩
    go_wp2_with fail
    refine (wakes22_any _).mono ?_
    rintro e w4 ⟨rfl, hb4⟩
    go_wp2_with fail
    go_ret
    exact ⟨rfl, hb4⟩
end Go.Proofs.Ytfjhommmplencaa
