/-
  The walk of the statement LineDrops. Conditions: none.
-/
import Derived.Test.YtaajjojgpphjiaaLineWakes
namespace Go.Proofs.Ytaajjojgpphjiaa
open Go.RowKit

theorem below_drewN {B : Nat} {w w' : World} (h : Below B w w') (m : Nat) : Below B w (w'.drewN m) := ⟨h.os, h.tape, h.output, h.size, h.block⟩
theorem dropRun_hit {l : List Int} {x : Int} (h : x ∈ l) : dropRun l [x] = (l.erase x, 1) := by simp [dropRun, h]
theorem dropRun_miss {l : List Int} {x : Int} (h : x ∉ l) : dropRun l [x] = (l, 0) := by simp [dropRun, h]
theorem Ints.cellAt {w : World} {B b off n : Nat} {l : List Int} (h : Ints w B (some ⟨b, off, none⟩) n l) {i : Nat} (hi : i < n) : ∃ x, Hid (l[i]? = some x) ∧ w.cell? ⟨b, off + i, none⟩ = some (.int .i64 x) := by
  obtain ⟨b', off', x, e, _, hx, hc⟩ := h.at_ hi
  injection e with e
  injection e with e1 e2
  subst e1 e2
  exact ⟨x, hx, hc⟩

set_option maxRecDepth 100000 in
set_option maxHeartbeats 2000000 in
theorem LineDrops_walk (A : Option Addr) (n c : Nat) (l : List Int) (x : Int) (w : World) (hl : Ints w w.heap.size A n l) (hm : n ≤ 9223372036854775807) :
    Calls Try.prog 3 #[.slice A n c, .int .i64 x] w fun e w' => e = .returned (.bool true) ∧ Below w.heap.size w w' := by
  have HL := Lib.hid hl.len
  have hrow : tooGreat [(A, n, c)] = decide (200 < n) := by simp [tooGreat]
  have HRW := Lib.hid hrow
  clear hrow
  by_cases hg : 200 < n
  · have hgd : decide (200 < n) = true := by simpa using hg
    go_enter Try.func3, Try.ntmps3
    go_wp2_with fail
    refine (Great_any _ _ _ _ [(A, n, c)] _ (rows_new1 w _ (A, n, c) _ rfl) (by omega) (by simpa using hm)).mono ?_
    rw [HRW.out, hgd]
    rintro e w' ⟨rfl, rfl⟩
    go_wp2_with fail
    refine (Wakes_any _).mono ?_
    rintro e w1 ⟨rfl, hb⟩
    go_wp2_with fail
    go_ret
    exact ⟨rfl, (Below.new_ _ _).trans (hb.mono (by simp))⟩
  · have hgd : decide (200 < n) = false := by simpa using hg
    by_cases hmem : x ∈ l
    · obtain ⟨q, hq, hql, hqe, hqx, hqn⟩ := placeOf_mem hmem
      have hdr := dropRun_hit hmem
      have hql' : q < n := by rw [← HL.out]; exact hql
      have hel : (l.erase x).length = n - 1 := by rw [List.length_erase_of_mem hmem, HL.out]
      have HQ := Lib.hid hq
      have HQE := Lib.hid hqe
      have HQX := Lib.hid hqx
      have HQN := Lib.hid hqn
      have HDR := Lib.hid hdr
      have HEL := Lib.hid hel
      clear hq hqe hqx hqn hdr hmem hel hql
      obtain ⟨b, off, y, rfl, hbb, hy, hcy⟩ := hl.at_ hql'
      obtain rfl : y = x := by have := hy.out; rw [HQX.out] at this; injection this with this; exact this.symm
      have hl2 := hl.alloc (Nat.le_refl _) (.cells #[rowVal (some ⟨b, off, none⟩, n, c)] 22)
      go_enter Try.func3, Try.ntmps3
      go_wp2_with fail
      refine (Great_any _ _ _ _ [(_, n, c)] _ (rows_new1 w _ (_, n, c) _ rfl) (by omega) (by simpa using hm)).mono ?_
      rw [HRW.out, hgd]
      rintro e w' ⟨rfl, rfl⟩
      go_wp2_with fail
      refine (Place_any _ _ _ l _ _ (hl2.more (by simp)) (by omega)).mono ?_
      rw [HQ.out]
      rintro e w' ⟨rfl, rfl⟩
      go_wp2_with fail
      refine (Drop_any _ _ _ _ _ _ l [y] _ ((hl2.alloc (by simp) _).more (by simp <;> omega)) (Ints.at1_ _ _ y _ (by simp)|>.more (by simp)) (by omega) (by omega)).mono ?_
      rw [HDR.out]
      dsimp only
      rw [HEL.out]
      rintro e w1 ⟨A1, c1, rfl, ho, hb⟩
      have hbw : Below w.heap.size w w1 := ((Below.new_ _ _).alloc (by simp) _).trans (hb.mono (by simp <;> omega))
      have hl1 := hl.below hbw
      clear hl2
      have hc2 : w1.cell? ⟨b, off + q, none⟩ = some (.int .i64 y) := (hbw.cell (p := ⟨b, off + q, none⟩) hbb).trans hcy
      have hi1 := ho.ints
      clear ho hb
      have i1 : decide ((n : Int) ≤ (q : Int)) = false := by simp; omega
      have i2 : decide ((q : Int) < (n : Int)) = true := by simp; omega
      have i3 : (((n - 1 : Nat) : Int) != (n : Int) - 1) = false := by simp; omega
      have i4 : IntKind.i64.wrap ((n : Int) - 1) = (n : Int) - 1 := IntWalk.i64_in _ (by omega)
      go_wp2_with fail
      go_loopw [9] (fun s9 wr => ∃ k : Nat, k ≤ n - 1 ∧ s9 = .int .i64 k ∧ ∃ m, wr = w1.drewN m) (fun s9 _ => n - (intOf s9).toNat)
      case atStart => exact ⟨0, Nat.zero_le _, rfl, 0, rfl⟩
      case round =>
        obtain ⟨k, hk, rfl, nq, rfl⟩ := hrel
        replace hbw := below_drewN hbw nq
        clear i1 i2 i3 i4 hcy hc2
        by_cases hlt : k < n - 1
        · have hkn : k < n := by omega
          obtain ⟨b1, o1, z, rfl, hbb1, hz, hcz⟩ := hi1.at_ hlt
          have hz2 := hz.out
          rw [← HQE.out, List.getElem?_eraseIdx] at hz2
          have d1 : decide (k < n - 1) = true := by simpa using hlt
          by_cases hkq : k < q
          · rw [if_pos hkq] at hz2
            obtain ⟨z', hz', hcl⟩ := hl1.cellAt hkn
            obtain rfl : z' = z := by have := hz'.out; rw [hz2] at this; injection this with this; exact this.symm
            have d2 : decide ((q : Int) ≤ (k : Int)) = false := by simp; omega
            have d3 : decide ((k : Int) < (q : Int)) = true := by simp; omega
            have d4 : (z' != z') = false := by simp
            have d5 : (z' == y) = false := by
              have hzm : z' ∈ l.take q := List.mem_of_getElem? (i := k) (by rw [List.getElem?_take, if_pos hkq]; exact hz2)
              simp only [beq_eq_false_iff_ne, ne_eq]
              rintro rfl
              exact HQN.out hzm
            have HZ := Lib.hid hz2
            clear hz2
            go_wp2_with fail
            go_quiet (fail)
            go_wp2_with fail
            go_roundw
            case rel => exact ⟨k + 1, by omega, by go_num, _, rfl⟩
            case measure => simp [intOf]; omega
          · rw [if_neg hkq] at hz2
            obtain ⟨z', hz', hcl⟩ := hl1.cellAt (show k + 1 < n by omega)
            obtain rfl : z' = z := by have := hz'.out; rw [hz2] at this; injection this with this; exact this.symm
            have d2 : decide ((q : Int) ≤ (k : Int)) = true := by simp; omega
            have d3 : decide ((k : Int) < (q : Int)) = false := by simp; omega
            have d4 : (z' != z') = false := by simp
            have d6 : IntKind.i64.wrap ((k : Int) + 1) = (k : Int) + 1 := IntWalk.i64_in _ (by omega)
            have d7 : (k : Int) + 1 < (n : Int) := by omega
            have d8 : (0 : Int) ≤ (k : Int) + 1 := by omega
            have d9 : ((k : Int) + 1).toNat = k + 1 := by omega
            have HZ := Lib.hid hz2
            clear hz2
            go_wp2_with fail
            go_quiet (fail)
            go_wp2_with fail
            go_roundw
            case rel => exact ⟨k + 1, by omega, by go_num, _, rfl⟩
            case measure => simp [intOf]; omega
        · have d1 : decide (k < n - 1) = false := by simpa using hlt
          go_wp2_with fail
          refine (Wakes_any _).mono ?_
          rintro e w2 ⟨rfl, hb2⟩
          go_wp2_with fail
          go_ret
          exact ⟨rfl, hbw.trans (hb2.mono hbw.size)⟩
    · have HQ := Lib.hid (placeOf_miss hmem)
      have HDR := Lib.hid (dropRun_miss hmem)
      have HM := Lib.hid hmem
      clear hmem
      have hl2 := hl.alloc (Nat.le_refl _) (.cells #[rowVal (A, n, c)] 22)
      go_enter Try.func3, Try.ntmps3
      go_wp2_with fail
      refine (Great_any _ _ _ _ [(_, n, c)] _ (rows_new1 w _ (_, n, c) _ rfl) (by omega) (by simpa using hm)).mono ?_
      rw [HRW.out, hgd]
      rintro e w' ⟨rfl, rfl⟩
      go_wp2_with fail
      refine (Place_any _ _ _ l _ _ (hl2.more (by simp)) (by omega)).mono ?_
      rw [HQ.out]
      rintro e w' ⟨rfl, rfl⟩
      go_wp2_with fail
      refine (Drop_any _ _ _ _ _ _ l [x] _ ((hl2.alloc (by simp) _).more (by simp <;> omega)) (Ints.at1_ _ _ x _ (by simp)|>.more (by simp)) (by omega) (by omega)).mono ?_
      rw [HDR.out]
      dsimp only
      rw [HL.out]
      rintro e w1 ⟨A1, c1, rfl, ho, hb⟩
      have hbw : Below w.heap.size w w1 := ((Below.new_ _ _).alloc (by simp) _).trans (hb.mono (by simp <;> omega))
      have hl1 := hl.below hbw
      clear hl2
      have hi1 := ho.ints
      clear ho hb
      go_wp2_with fail
      go_loop [8] (fun s8 => ∃ k : Nat, k ≤ n ∧ s8 = .int .i64 k) (fun s8 => n - (intOf s8).toNat)
      case atStart => exact ⟨0, Nat.zero_le _, rfl⟩
      case round =>
        obtain ⟨k, hk, rfl⟩ := hrel
        by_cases hlt : k < n
        · obtain ⟨b, off, y, rfl, hbb, hy, hcy⟩ := hl1.at_ hlt
          have d1 : (y == x) = false := by
            simp only [beq_eq_false_iff_ne, ne_eq]
            rintro rfl
            exact HM.out (List.mem_of_getElem? hy.out)
          go_wp2_with fail
          go_round
          case rel => exact ⟨k + 1, by omega, by go_num⟩
          case measure => simp [intOf]; omega
        · go_wp2_with fail
          refine (Same_any _ _ _ _ _ _ l l _ hi1 (hl1.more hbw.size) (by omega) (by omega)).mono ?_
          have hd : sameL l l = true := by simp [sameL]
          rw [hd]
          clear hd
          rintro e w2 ⟨rfl, hb2⟩
          go_wp2_with fail
          refine (Wakes_any _).mono ?_
          rintro e w3 ⟨rfl, hb3⟩
          go_wp2_with fail
          go_ret
          exact ⟨rfl, (hbw.trans (hb2.mono hbw.size)).trans (hb3.mono (Nat.le_trans hbw.size hb2.size))⟩
end Go.Proofs.Ytaajjojgpphjiaa
