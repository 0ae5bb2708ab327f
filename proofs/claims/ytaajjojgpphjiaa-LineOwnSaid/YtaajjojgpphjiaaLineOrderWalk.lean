/-
  The walk of the statement LineOrder. Conditions: none.
-/
import Derived.Test.YtaajjojgpphjiaaLineDropsWalk
namespace Go.Proofs.Ytaajjojgpphjiaa
open Go.RowKit

theorem OwI.rebase {w : World} {base base' : Nat} {e : TypeId} {n c : Nat} {A : Option Addr} {l : List Int} (h : OwI w base e A n c l) (hb : base' ≤ base) : OwI w base' e A n c l := Ow.rebase h hb

def LO1 (w : World) (l : List Int) (n : Nat) (s2 s3 : Value) (wr : World) : Prop :=
  ∃ (k : Nat) (A' : Option Addr) (c' : Nat), k ≤ n ∧ s3 = .int .i64 k ∧ s2 = .slice A' k c' ∧ OwI wr w.heap.size 3 A' k c' (l.take k) ∧ Below w.heap.size w wr
def LO2 (w : World) (l : List Int) (n : Nat) (s2 s4 s5 : Value) (wr : World) : Prop :=
  ∃ (k q : Nat) (A1 : Option Addr) (c1 : Nat) (A2 : Option Addr) (c2 : Nat), k + q = n ∧ s5 = .int .i64 k ∧ s2 = .slice A1 q c1 ∧ s4 = .slice A2 q c2 ∧
    OwI wr w.heap.size 3 A1 q c1 (l.drop k) ∧ OwI wr w.heap.size 3 A2 q c2 (l.take q) ∧ Below w.heap.size w wr

set_option maxRecDepth 100000 in
set_option maxHeartbeats 2000000 in
theorem LineOrder_walk (A : Option Addr) (n c : Nat) (l : List Int) (w : World) (hl : Ints w w.heap.size A n l) (hm : n ≤ 9223372036854775807) :
    Calls Try.prog 5 #[.slice A n c] w fun e w' => e = .returned (.bool true) ∧ Below w.heap.size w w' := by
  have HL := Lib.hid hl.len
  have hrow : tooGreat [(A, n, c)] = decide (200 < n) := by simp [tooGreat]
  have HRW := Lib.hid hrow
  clear hrow
  by_cases hg : 200 < n
  · have hgd : decide (200 < n) = true := by simpa using hg
    go_enter Try.func5, Try.ntmps5
    go_wp2_with fail
    refine (Great_any _ _ _ _ [(A, n, c)] _ (rows_new1 w _ (A, n, c) _ rfl) (by omega) (by simpa using hm)).mono ?_
    rw [HRW.out, hgd]
    rintro e w' ⟨rfl, rfl⟩
    go_wp2_with fail
    refine (Wakes_any _).mono ?_
    rintro e w1 ⟨rfl, hb⟩
    go_wp2_with fail
    go_ret
    exact ⟨rfl, (Below.new_ _ _).trans (hb.mono (by simp))⟩
  · have hgd : decide (200 < n) = false := by simpa using hg
    go_enter Try.func5, Try.ntmps5
    go_wp2_with fail
    refine (Great_any _ _ _ _ [(_, n, c)] _ (rows_new1 w _ (_, n, c) _ rfl) (by omega) (by simpa using hm)).mono ?_
    rw [HRW.out, hgd]
    rintro e w' ⟨rfl, rfl⟩
    go_wp2_with fail
    go_loopw [3, 4] (fun s2 s3 wr => LO1 w l n s2 s3 wr) (fun _ s3 _ => n - (intOf s3).toNat)
    case atStart => exact ⟨0, none, 0, Nat.zero_le _, rfl, rfl, OwI.nil_ _ _ _ _, Below.new_ _ _⟩
    case round =>
      obtain ⟨k, A1, c1, hk, rfl, rfl, ho, hb⟩ := hrel
      by_cases hlt : k < n
      · obtain ⟨b, off, x, rfl, hbb, hx, hcx⟩ := (hl.below hb).at_ hlt
        go_wp2_with fail
        refine (Push_any _ _ k 1 _ _ (l.take k) [x] _ ((ho.ints.alloc (Nat.le_refl _) _).more (by simp)) (Ints.at1_ _ _ x _ rfl |>.more (by simp)) (by omega) (by omega) ho.2.1).mono ?_
        rintro e w1 ⟨A2, c2, rfl, ho2, hb2⟩
        have hbw : Below w.heap.size w w1 := (hb.alloc hb.size _).trans (hb2.mono (by have := hb.size; simp <;> omega))
        replace ho2 := ho2.rebase (base' := w.heap.size) (by have := hb.size; simp <;> omega)
        rw [← take_succ_of hx.out] at ho2
        clear hb2
        go_wp2_with fail
        go_roundw
        case rel => exact ⟨k + 1, A2, c2, by omega, by go_num, rfl, ho2, hbw⟩
        case measure => simp [intOf]; omega
      · obtain rfl : k = n := by omega
        have ht : l.take k = l := List.take_of_length_le (by rw [HL.out]; omega)
        rw [ht] at ho
        clear ht
        have HO := Lib.hid ho
        have HB := Lib.hid hb
        clear ho hb
        go_wp2_with fail
        go_loopw [3, 5, 6] (fun s2 s4 s5 wx => LO2 w l k s2 s4 s5 wx) (fun _ _ s5 _ => k - (intOf s5).toNat)
        case atStart => exact ⟨0, k, A1, c1, A1, c1, by omega, rfl, rfl, rfl, HO.out, by rw [List.take_of_length_le (by rw [HL.out]; omega)]; exact HO.out, HB.out⟩
        case round =>
          clear HO HB
          obtain ⟨i, q, A1, c1, A2, c2, hiq, rfl, rfl, rfl, ho1, ho2, hb⟩ := hrel
          by_cases hlt2 : i < k
          · obtain ⟨b, off, x, rfl, hbb, hx, hcx⟩ := (hl.below hb).at_ hlt2
            obtain ⟨y, hy, hcy⟩ := Ints.cellAt (hl.below hb) (show q - 1 < k by omega)
            have hdx : (l.drop i).headD 0 = x := by rw [List.headD_eq_head?_getD, List.head?_drop, hx.out]; rfl
            have hdy : (l.take q).getD (q - 1) 0 = y := by rw [List.getD_eq_getElem?_getD, List.getElem?_take, if_pos (by omega), hy.out]; rfl
            have hq : decide (0 < q) = true := by simp; omega
            have HX := Lib.hid hdx
            have HY := Lib.hid hdy
            have HQ := Lib.hid hq
            clear hdx hdy hq
            go_wp2_with fail
            refine (Front_any _ _ _ _ _ ho1.ints (by omega) ho1.2.1).mono ?_
            rw [HX.out, HQ.out]
            rintro e w1 ⟨A3, c3, rfl, ho3, hb3⟩
            have hbw1 : Below w.heap.size w w1 := hb.trans (hb3.mono hb.size)
            replace ho3 := ho3.rebase (base' := w.heap.size) hb.size
            replace ho2 := ho2.below hb3
            replace hcx : w1.cell? ⟨b, off + i, none⟩ = some (.int .i64 x) := (hb3.cell (p := ⟨b, off + i, none⟩) (Nat.lt_of_lt_of_le hbb hb.size)).trans hcx
            replace hcy : w1.cell? ⟨b, off + (q - 1), none⟩ = some (.int .i64 y) := (hb3.cell (p := ⟨b, off + (q - 1), none⟩) (Nat.lt_of_lt_of_le hbb hb.size)).trans hcy
            clear ho1 hb3 hb
            go_wp2_with fail
            refine (Back_any _ _ _ _ _ ho2.ints (by omega) ho2.2.1).mono ?_
            rw [HY.out, HQ.out]
            rintro e w2 ⟨A4, c4, rfl, ho4, hb4⟩
            have hbw2 : Below w.heap.size w w2 := hbw1.trans (hb4.mono hbw1.size)
            replace ho4 := ho4.rebase (base' := w.heap.size) hbw1.size
            replace ho3 := ho3.below hb4
            replace hcx : w2.cell? ⟨b, off + i, none⟩ = some (.int .i64 x) := (hb4.cell (p := ⟨b, off + i, none⟩) (Nat.lt_of_lt_of_le hbb hbw1.size)).trans hcx
            replace hcy : w2.cell? ⟨b, off + (q - 1), none⟩ = some (.int .i64 y) := (hb4.cell (p := ⟨b, off + (q - 1), none⟩) (Nat.lt_of_lt_of_le hbb hbw1.size)).trans hcy
            clear hb4 hbw1 ho2
            rw [List.drop_drop] at ho3
            rw [List.take_take, Nat.min_eq_left (by omega)] at ho4
            have i1 : (k : Int) - 1 - (i : Int) = ((q - 1 : Nat) : Int) := by omega
            have i2 : (((q - 1 : Nat) : Int) != (q : Int) - 1) = false := by simp; omega
            have i3 : (x != x) = false := by simp
            have i4 : (y != y) = false := by simp
            have i5 : (1 : Int) ≤ (q : Int) := by omega
            have i6 : (0 : Int) ≤ (k : Int) - 1 - (i : Int) := by omega
            have i7 : (k : Int) - 1 - (i : Int) < (k : Int) := by omega
            have i8 : ((k : Int) - 1 - (i : Int)).toNat = q - 1 := by omega
            go_wp2_with fail
            go_roundw
            case rel => exact ⟨i + 1, q - 1, A3, c3, A4, c4, by omega, by go_num, rfl, rfl, ho3, ho4, hbw2⟩
            case measure => simp [intOf]; omega
          · obtain rfl : i = k := by omega
            obtain rfl : q = 0 := by omega
            have hq : decide (0 < 0) = false := by decide
            have HQ := Lib.hid hq
            clear hq
            go_wp2_with fail
            refine (Front_any _ _ _ _ _ ho1.ints (by omega) ho1.2.1).mono ?_
            rw [HQ.out]
            rintro e w1 ⟨A3, c3, rfl, ho3, hb3⟩
            have hbw1 : Below w.heap.size w w1 := hb.trans (hb3.mono hb.size)
            replace ho2 := ho2.below hb3
            clear ho3 ho1 hb3 hb
            go_wp2_with fail
            refine (Back_any _ _ _ _ _ ho2.ints (by omega) ho2.2.1).mono ?_
            rw [HQ.out]
            rintro e w2 ⟨A4, c4, rfl, ho4, hb4⟩
            have hbw2 : Below w.heap.size w w2 := hbw1.trans (hb4.mono hbw1.size)
            clear ho4 hb4 hbw1 ho2
            have hl2 := (hl.below hbw2).more hbw2.size
            go_wp2_with fail
            refine (Turned_any _ _ _ l _ hl2 (by omega)).mono ?_
            rintro e w3 ⟨A5, c5, rfl, ho5, hb5⟩
            go_wp2_with fail
            refine (Turned_any _ _ _ _ _ ho5.ints (by omega)).mono ?_
            rw [List.reverse_reverse]
            rintro e w4 ⟨A6, c6, rfl, ho6, hb6⟩
            have hbw3 : Below w.heap.size w w3 := hbw2.trans (hb5.mono hbw2.size)
            have hbw4 : Below w.heap.size w w4 := hbw3.trans (hb6.mono hbw3.size)
            have hl4 := (hl.below hbw4).more hbw4.size
            clear hb5 hb6 hbw3 hbw2 hl2 ho5
            go_wp2_with fail
            refine (Same_any _ _ _ _ _ _ l l _ ho6.ints hl4 (by omega) (by omega)).mono ?_
            have hd : sameL l l = true := by simp [sameL]
            rw [hd]
            clear hd
            rintro e w5 ⟨rfl, hb5⟩
            go_wp2_with fail
            refine (Wakes_any _).mono ?_
            rintro e w6 ⟨rfl, hb6⟩
            go_wp2_with fail
            go_ret
            exact ⟨rfl, (hbw4.trans (hb5.mono hbw4.size)).trans (hb6.mono (Nat.le_trans hbw4.size hb5.size))⟩
end Go.Proofs.Ytaajjojgpphjiaa
