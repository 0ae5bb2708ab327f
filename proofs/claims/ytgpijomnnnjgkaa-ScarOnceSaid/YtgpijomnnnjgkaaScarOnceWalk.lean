/-
  The walk of the statement ScarOnce. Conditions: none.
-/
import Derived.Test.YtgpijomnnnjgkaaScarWakes
import Derived.Test.YtgpijomnnnjgkaaScarOncePlain
import Derived.Test.YtgpijomnnnjgkaaOpenSc
import Derived.BigQuiet
namespace Go.Proofs.Ytgpijomnnnjgkaa
open Go.RowKit Go.Shelf

theorem Great02_anyO (A : Option Addr) (n c : Nat) (w : World) (h : n ≤ 9223372036854775807) : Calls Try.prog 8 #[.slice A n c] w fun e w' => e = .returned (.bool (decide (60 < n))) ∧ w = w' := by
  have d : decide ((60 : Int) < (n : Int)) = decide (60 < n) := by rw [decide_eq_decide]; omega
  have D := Lib.hid d
  clear d
  go_enter Try.func8, Try.ntmps8
  go_wp2_with fail
  go_ret
  exact ⟨ret_bool (by first | exact D.out | rfl | simp), rfl⟩

set_option maxRecDepth 100000 in
set_option maxHeartbeats 8000000 in
theorem ScarOnce_in (A : Option Addr) (n c : Nat) (a : List Ad) (w : World) (ha : Ads w w.heap.size A n a) (hn : n ≤ 60) :
    Calls Try.prog 3 #[.slice A n c] w fun e w' => e = .returned (.bool true) ∧ Below w.heap.size w w' := by
  have G1 : Hid (decide (60 < n) = false) := (by show _ = _; simp; omega)
  have HAL := Lib.hid ha.1
  go_enter Try.func3, Try.ntmps3
  go_wp2_with fail
  refine (Great02_anyO _ _ _ _ (by omega)).mono ?_
  rw [G1.out]
  rintro e w' ⟨rfl, rfl⟩
  go_wp2_with fail
  go_loopw [3, 4] (fun s3 s4 wr => ∃ (i m : Nat) (A' : Option Addr) (c' : Nat), i ≤ n ∧ s4 = .int .i64 i ∧ s3 = .slice A' m c' ∧ Scs wr wr.heap.size A' m (onceAt a i) ∧ m ≤ 32 ∧ m ≤ c' ∧ Below w.heap.size w wr) (fun _ s4 _ => n - (intOf s4).toNat)
  case atStart => exact ⟨0, 0, none, 0, Nat.zero_le _, rfl, rfl, Recs.nil_ _ _ _, by omega, by omega, Below.refl _ _⟩
  case round =>
    obtain ⟨i, m, A1, c1, hi, rfl, rfl, r1, hm, hmc, hb⟩ := hrel
    by_cases hgo : i < n
    · obtain ⟨b1, off1, x, rfl, hbb1, hx, hd0, hd1, hd2, hd3, hd4, hd5, hd6, hd7, hd8, hd9⟩ := Ads.cells (ha.below hb) hgo
      have hon := onceAt_succ hx.out
      have hpos := note_pos (onceAt a i) i x
      have hlast := note_last (onceAt a i) i x
      have hle := onceAt_le a (i := i + 1) (by rw [HAL.out]; omega)
      rw [hon] at hle
      obtain ⟨R, hR⟩ : ∃ R, R = noteL (onceAt a i) i [x] := ⟨_, rfl⟩
      rw [← hR] at hle hlast hpos hon
      obtain ⟨q, hq⟩ : ∃ q, R.length = q := ⟨_, rfl⟩
      rw [hq] at hle hlast hpos
      have HR := Lib.hid hR.symm
      have HQ := Lib.hid hq
      have HON := Lib.hid hon
      have HLAST := Lib.hid hlast
      clear hR hq hon hlast
      have ha1 := (ha.below hb).more hb.size
      go_wp2_with fail
      refine (Note_at _ _ _ (onceAt a i) i _ _ _ [x] _ ((r1.alloc (Nat.le_refl _) _).more (by first | omega | (simp; done) | (simp; omega))) ((Ads.new1 _ _ (by first | omega | (simp; done) | (simp; omega)) x _).more (by first | omega | (simp; done) | (simp; omega))) R q HR.out HQ.out (by omega)).mono ?_
      rintro e w3 ⟨A3, c3, rfl, r3, hqc, hbx⟩
      replace hbx := (Below.new_ wr _).trans (hbx.mono (by first | omega | (simp; done) | (simp; omega)))
      replace hb := hb.trans (hbx.mono hb.size)
      replace ha1 := (ha1.below hbx).more hbx.size
      clear hbx r1 hd0 hd1 hd2 hd3 hd4 hd5 hd6 hd7 hd8 hd9
      have ha2 := ha1
      obtain ⟨b1', off1', x', e1, hbb1', hx', hd0, hd1, hd2, hd3, hd4, hd5, hd6, hd7, hd8, hd9⟩ := Ads.cells ha2 hgo
      injection e1 with e1
      injection e1 with e1 e2
      subst e1 e2
      obtain rfl : x' = x := by have h1 := hx'.out; rw [hx.out] at h1; injection h1 with h1; exact h1.symm
      obtain ⟨b2, off2, y, rfl, hbb2, hy, hc0, hc1, hc2, hc3, hc4, hc5, hc6, hc7, hc8, hc9, hc10⟩ := Scs.cells r3 (i := q - 1) (by omega)
      obtain rfl : y = (x', (i : Int)) := by have h1 := hy.out; rw [HLAST.out] at h1; injection h1 with h1; exact h1.symm
      have hE2 := fun wx => eqSc (x', (i : Int)) (x', (i : Int)) wx
      rw [decide_eq_true rfl] at hE2
      unfold valSc at hE2
      dsimp only at hc0 hc1 hc2 hc3 hc4 hc5 hc6 hc7 hc8 hc9 hc10 hE2
      have i1 : (1 : Int) ≤ (q : Int) := by omega
      have i2 : (0 : Int) ≤ (q : Int) - 1 := by omega
      have i3 : (q : Int) - 1 < (q : Int) := by omega
      have i5 : ((q : Int) - 1).toNat = q - 1 := by omega
      have i6 : IntKind.i64.wrap ((q : Int) - 1) = (q : Int) - 1 := IntWalk.i64_in _ (by omega)
      have e1 : ((q : Int) == 0) = false := by simp; omega
      have e2 : decide ((32 : Int) < (q : Int)) = false := by simp; omega
      have e3 : decide (32 < q) = false := by simp; omega
      go_upto_region 8 with fail
      go_quiet (fail)
      go_wp2_with fail
      go_roundw
      case rel => exact ⟨i + 1, q, _, c3, by omega, by go_num, rfl, by rw [HON.out]; exact r3.drewN _, hle, hqc, below_drewN hb _⟩
      case measure => simp [intOf]; omega
    · obtain rfl : i = n := by omega
      have HO := onceAt_once a i (by rw [HAL.out]; omega)
      obtain ⟨R, hR⟩ : ∃ R, R = onceAt a i := ⟨_, rfl⟩
      rw [← hR] at HO r1
      rw [← HAL.out] at HO
      have HOH := Lib.hid HO
      have HRL := Lib.hid r1.1
      replace ha := (ha.below hb).more hb.size
      clear hR HO
      go_wp2_with fail
      obtain ⟨wo, rfl⟩ : ∃ wo : World, wo = wr := ⟨_, rfl⟩
      go_loopw [5] (fun s5 w2 => ∃ j : Nat, j ≤ m ∧ s5 = .int .i64 j ∧ Below wo.heap.size wo w2) (fun s5 _ => m - (intOf s5).toNat)
      case atStart => exact ⟨0, Nat.zero_le _, rfl, Below.refl _ _⟩
      case round =>
        obtain ⟨j, hj, rfl, hb2⟩ := hrel
        by_cases hgo2 : j < m
        · obtain ⟨b2, off2, s, rfl, hbb2, hy, hc0, hc1, hc2, hc3, hc4, hc5, hc6, hc7, hc8, hc9, hc10⟩ := Scs.cells (r1.below hb2) hgo2
          have hpl := HOH.out.place hy.out
          rw [HAL.out] at hpl
          have HPL := Lib.hid hpl
          clear hpl
          have r2 := (r1.below hb2).more hb2.size
          have ha2 := (ha.below hb2).more hb2.size
          rcases Nat.eq_zero_or_pos j with h0 | h0
          case' inl =>
            have q1 : decide ((0 : Int) < (j : Int)) = false := by simp; omega
            have q2 : decide (0 < j) = false := by simp; omega
            clear h0
          case' inr =>
            have q1 : decide ((0 : Int) < (j : Int)) = true := by simp; omega
            have q2 : decide (0 < j) = true := by simp; omega
            have i1 : (1 : Int) ≤ (j : Int) := by omega
            have i2 : (0 : Int) ≤ (j : Int) - 1 := by omega
            have i3 : (j : Int) - 1 < (m : Int) := by omega
            have i5 : ((j : Int) - 1).toNat = j - 1 := by omega
            have i6 : IntKind.i64.wrap ((j : Int) - 1) = (j : Int) - 1 := IntWalk.i64_in _ (by omega)
            obtain ⟨b3, off3, s', e3, hbb3, hy3, hf0, hf1, hf2, hf3, hf4, hf5, hf6, hf7, hf8, hf9, hf10⟩ := Scs.cells (r1.below hb2) (i := j - 1) (by omega)
            injection e3 with e3
            injection e3 with e3 e4
            subst e3 e4
            have hlt := HOH.out.lt h0 hy3.out hy.out
            have q3 : decide (s.2 ≤ s'.2) = false := by simp; omega
            clear hlt
          all_goals
            go_upto_region 13 with fail
            go_quiet (fail)
            go_wp2_with fail
            obtain ⟨wp, rfl⟩ : ∃ wp : World, wp = wr := ⟨_, rfl⟩
            go_loopw [6, 7] (fun s6 s7 w3 => ∃ k : Nat, k ≤ i ∧ s7 = .int .i64 k ∧ s6 = .int .i64 (lastPlace a s.1 k) ∧ Below wp.heap.size wp w3) (fun _ s7 _ => i - (intOf s7).toNat)
            case atStart => exact ⟨0, Nat.zero_le _, rfl, rfl, below_drewN (Below.refl _ _) _⟩
            case round =>
              obtain ⟨k, hk, rfl, rfl, hb3⟩ := hrel
              by_cases hgo3 : k < i
              · obtain ⟨b4, off4, y, e5, hbb4, hy4, hd0, hd1, hd2, hd3, hd4, hd5, hd6, hd7, hd8, hd9⟩ := Ads.cells (ha2.below hb3) hgo3
                subst e5
                obtain ⟨hc0, hc1, hc2, hc3, hc4, hc5, hc6, hc7, hc8, hc9, hc10⟩ := Scs.cells_at (r2.below hb3) hgo2 hy.out
                have hE := fun wx => eqAd y s.1 wx
                unfold valAd at hE
                by_cases hp : y = s.1
                · have hst : Hid (lastPlace a s.1 (k + 1) = (k : Int)) := lastPlace_hit (by rw [hy4.out, hp])
                  rw [decide_eq_true hp] at hE
                  clear hp
                  go_upto_region 19 with fail
                  go_quiet (fail)
                  go_wp2_with fail
                  go_roundw
                  case rel => exact ⟨k + 1, by omega, by go_num, by rw [hst.out], below_drewN hb3 _⟩
                  case measure => simp [intOf]; omega
                · have hst : Hid (lastPlace a s.1 (k + 1) = lastPlace a s.1 k) := lastPlace_miss hy4.out hp
                  rw [decide_eq_false hp] at hE
                  clear hp
                  go_upto_region 19 with fail
                  go_quiet (fail)
                  go_wp2_with fail
                  go_roundw
                  case rel => exact ⟨k + 1, by omega, by go_num, by rw [hst.out], below_drewN hb3 _⟩
                  case measure => simp [intOf]; omega
              · obtain rfl : k = i := by omega
                rw [HPL.out]
                obtain ⟨hc0, hc1, hc2, hc3, hc4, hc5, hc6, hc7, hc8, hc9, hc10⟩ := Scs.cells_at (r2.below hb3) hgo2 hy.out
                go_wp2_with fail
                go_roundw
                case rel => exact ⟨j + 1, by omega, by go_num, hb2.trans (hb3.mono hb2.size)⟩
                case measure => simp [intOf]; omega
        · obtain rfl : j = m := by omega
          replace r1 := (r1.below hb2).more hb2.size
          replace ha := (ha.below hb2).more hb2.size
          replace hb := hb.trans (hb2.mono hb.size)
          clear hb2
          by_cases h32 : j < 32
          · have q1 : decide ((j : Int) < (32 : Int)) = true := by simp; omega
            have q2 : decide (j < 32) = true := by simp; omega
            go_wp2_with fail
            obtain ⟨wp, rfl⟩ : ∃ wp : World, wp = wr := ⟨_, rfl⟩
            go_loopw [8] (fun s8 w2 => ∃ k : Nat, k ≤ i ∧ s8 = .int .i64 k ∧ Below wp.heap.size wp w2) (fun s8 _ => i - (intOf s8).toNat)
            case atStart => exact ⟨0, Nat.zero_le _, rfl, Below.refl _ _⟩
            case round =>
              obtain ⟨k, hk, rfl, hb3⟩ := hrel
              by_cases hgo3 : k < i
              · obtain ⟨b4, off4, y, e5, hbb4, hy4, hd0, hd1, hd2, hd3, hd4, hd5, hd6, hd7, hd8, hd9⟩ := Ads.cells (ha.below hb3) hgo3
                subst e5
                have hh := HOH.out.has (by rw [HAL.out]; exact hn) (by rw [HRL.out]; exact h32) hy4.out
                rw [HAL.out] at hh
                have HH := Lib.hid hh
                clear hh
                have r3 := (r1.below hb3).more hb3.size
                go_wp2_with fail
                refine (Has_any _ _ _ R 100 i _ _ _ [y] _ ((r3.alloc (Nat.le_refl _) _).more (by first | omega | (simp; done) | (simp; omega))) (by omega) ((Ads.new1 _ _ (by first | omega | (simp; done) | (simp; omega)) y _).more (by first | omega | (simp; done) | (simp; omega))) (by omega)).mono ?_
                rw [HH.out]
                rintro e w4 ⟨rfl, hbx⟩
                replace hbx := (Below.new_ wr _).trans (hbx.mono (by first | omega | (simp; done) | (simp; omega)))
                replace hb3 := hb3.trans (hbx.mono hb3.size)
                clear hbx
                go_wp2_with fail
                go_roundw
                case rel => exact ⟨k + 1, by omega, by go_num, hb3⟩
                case measure => simp [intOf]; omega
              · replace hb := hb.trans (hb3.mono hb.size)
                clear hb3
                go_wp2_with fail
                refine (wakes12_any _).mono ?_
                rintro e w4 ⟨rfl, hb4⟩
                replace hb := hb.trans (hb4.mono hb.size)
                go_wp2_with fail
                go_ret
                exact ⟨rfl, hb⟩
          · have q1 : decide ((j : Int) < (32 : Int)) = false := by simp; omega
            have q2 : decide (j < 32) = false := by simp; omega
            go_wp2_with fail
            refine (wakes12_any _).mono ?_
            rintro e w4 ⟨rfl, hb4⟩
            replace hb := hb.trans (hb4.mono hb.size)
            go_wp2_with fail
            go_ret
            exact ⟨rfl, hb⟩

set_option maxRecDepth 100000 in
set_option maxHeartbeats 2000000 in
theorem ScarOnce_walk (A : Option Addr) (n c : Nat) (a : List Ad) (w : World)
    (ha : Ads w w.heap.size A n a) (hn : n ≤ 9223372036854775807) (_ho : ∀ x ∈ a, okAd x) (_hc : n ≤ c) :
    Calls Try.prog 3 #[.slice A n c] w fun e w' => e = .returned (.bool true) ∧ Below w.heap.size w w' := by
  cases g1 : decide (60 < n)
  · exact ScarOnce_in A n c a w ha (by simpa using g1)
  · have G1 := Lib.hid g1
    clear g1
    go_enter Try.func3, Try.ntmps3
    go_wp2_with fail
    refine (Great02_anyO _ _ _ _ hn).mono ?_
    rw [G1.out]
    rintro e w' ⟨rfl, rfl⟩
    go_wp2_with fail
    refine (wakes12_any _).mono ?_
    rintro e w4 ⟨rfl, hb4⟩
    go_wp2_with fail
    go_ret
    exact ⟨rfl, hb4⟩
end Go.Proofs.Ytgpijomnnnjgkaa
