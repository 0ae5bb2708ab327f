/-
  What the document's answer of chapter 4 computes: Push, Front, Back, Place, Drop, Turned. Conditions: the arguments read as lists of ints, of at most 100000 numbers.
-/
import Derived.Test.YtaajjojgpphjiaaLine
import Derived.Test.YtaajjojgpphjiaaLineRef
namespace Go.Proofs.Ytaajjojgpphjiaa
open Go.RowKit

theorem Ints.restK {w : World} {B : Nat} {b off n c k : Nat} {l : List Int} (h : Ints w B (some ⟨b, off, none⟩) n l) (hk : k ≤ n) (hc : n ≤ c) : Ints w B (if c = k then some ⟨b, off, none⟩ else some ⟨b, off + k, none⟩) (n - k) (l.drop k) := by
  have hl := h.len
  refine ⟨by simp; omega, fun h0 h1 => ?_⟩
  obtain ⟨b', off', e, hb, hcell⟩ := h.2 (by omega) h1
  injection e with e
  injection e with e1 e2
  subst e1 e2
  rw [if_neg (by omega)]
  refine ⟨b, off + k, rfl, hb, fun j u hu => ?_⟩
  have := hcell (k + j) u (by
    rw [List.getElem?_map, List.getElem?_drop] at hu
    rw [List.getElem?_map]; exact hu)
  rw [Nat.add_assoc]
  exact this

theorem rPush4_any (A1 A2 : Option Addr) (n1 n2 c1 c2 B1 B2 : Nat) (l m : List Int) (w : World) (hl : Ints w B1 A1 n1 l) (hm : Ints w B2 A2 n2 m) (hB1 : B1 ≤ w.heap.size) (hB2 : B2 ≤ w.heap.size) (h1 : n1 ≤ 100000) (h2 : n2 ≤ 100000) :
    Calls Try.prog 20 #[.slice A1 n1 c1, .slice A2 n2 c2] w fun e w' => ∃ A' c', e = .returned (.slice A' (n1 + n2) c') ∧ OwI w' w.heap.size 3 A' (n1 + n2) c' (l ++ m) ∧ Below w.heap.size w w' := by
  go_enter Try.func20, Try.ntmps20
  have hb0 : Below w.heap.size w w := Below.refl _ _
  go_wp2_with (first | (at_builtin; refine wpList_appI w rfl (.tmp 6) (.tmp 7) rfl w.heap.size _ _ _ [] rfl (OwI.nil_ w w.heap.size 3 none) B1 _ _ _ l rfl hl (by omega) (Nat.le_refl _) ?_; intro A3 c3 w3 ho3 hg3 hr3; rw [Nat.zero_add] at ho3; have hb3 : Below w.heap.size w w3 := hb0.grown hg3 (Nat.le_refl _) (fun g hg => (Ow.row (OwI.nil_ w w.heap.size 3 none) g hg).1)) | (at_builtin; refine wpList_appI _ rfl (.tmp 9) (.tmp 10) rfl w.heap.size _ _ _ ([] ++ l) rfl ho3 B2 _ _ _ m rfl (hm.below' hb3 hB2) (by omega) hb3.size ?_; intro A4 c4 w4 ho4 hg4 hr4))
  go_ret
  exact ⟨A4, c4, rfl, ho4, hb3.grown hg4 hb3.size (fun g hg => (Ow.row ho3 g hg).1)⟩
theorem rPlace4_any (A : Option Addr) (n c B : Nat) (l : List Int) (x : Int) (w : World) (hl : Ints w B A n l) (hn : n ≤ 100000) :
    Calls Try.prog 21 #[.slice A n c, .int .i64 x] w fun e w' => e = .returned (.int .i64 (placeOf l x)) ∧ w = w' := by
  have HL := Lib.hid hl.len
  go_enter Try.func21, Try.ntmps21
  go_wp2
  go_loop [5] (fun s8 => ∃ k : Nat, k ≤ n ∧ s8 = .int .i64 k ∧ Hid (x ∉ l.take k)) (fun s8 => n - (intOf s8).toNat)
  case atStart => exact ⟨0, Nat.zero_le _, rfl, by show _ ∉ _; simp⟩
  case round =>
    obtain ⟨k, hk, rfl, hno⟩ := hrel
    by_cases hlt : k < n
    · obtain ⟨b, off, y, rfl, hbb, hy, hc⟩ := hl.at_ hlt
      by_cases hxy : y = x
      · subst hxy
        have hb0 : (y == y) = true := by simp
        have hres := placeOf_hit hy.out hno.out
        have HR := Lib.hid hres
        clear hres
        go_wp2
        go_ret
        exact ⟨ret_int HR.out.symm, rfl⟩
      · have hb0 : (y == x) = false := by simpa using hxy
        have hno2 : Hid (x ∉ l.take (k + 1)) := by
          show x ∉ _
          rw [take_succ_of hy.out]
          simp only [List.mem_append, List.mem_singleton, not_or]
          exact ⟨hno.out, fun h => hxy h.symm⟩
        have HX := Lib.hid hxy
        clear hxy
        go_wp2
        go_round
        case rel => exact ⟨k + 1, by omega, by go_num, hno2⟩
        case measure => simp [intOf]; omega
    · have hres : placeOf l x = -1 := placeOf_miss (by
        have := hno.out
        rwa [List.take_of_length_le (by rw [HL.out]; omega)] at this)
      have HR := Lib.hid hres
      clear hres
      go_wp2
      go_ret
      exact ⟨ret_int HR.out.symm, rfl⟩
set_option maxHeartbeats 800000 in
theorem rFront4_any (A : Option Addr) (n c : Nat) (l : List Int) (w : World) (hl : Ints w w.heap.size A n l) (hn : n ≤ 100000) (hnc : n ≤ c) :
    Calls Try.prog 14 #[.slice A n c] w fun e w' => ∃ A' c', e = .returned (.tuple #[.int .i64 (l.headD 0), .slice A' (n - 1) c', .bool (decide (0 < n))]) ∧ OwI w' w.heap.size 3 A' (n - 1) c' (l.drop 1) ∧ Below w.heap.size w w' := by
  rcases Nat.eq_zero_or_pos n with h0 | h0
  · have hb0 : ((n : Int) == 0) = true := by simp; omega
    have hl0 : l = [] := List.eq_nil_of_length_eq_zero (by rw [hl.len]; exact h0)
    subst hl0 h0
    go_enter Try.func14, Try.ntmps14
    go_wp2
    go_ret3
    exact ⟨none, 0, rfl, OwI.nil_ _ _ _ _, Below.refl _ _⟩
  · obtain ⟨b, off, x, rfl, hbb, hx, hc⟩ := hl.at_ h0
    replace hc : w.cell? ⟨b, off, none⟩ = some (.int .i64 x) := hc
    have hb0 : ((n : Int) == 0) = false := by simp; omega
    have hh : l.headD 0 = x := by have := hx.out; cases l <;> simp_all
    have hd : decide (0 < n) = true := by simpa using h0
    have HH := Lib.hid hh
    have HD := Lib.hid hd
    clear hh hd
    have hr := hl.rest h0 hnc
    have i1 : (1 : Int) ≤ (n : Int) := by omega
    have hn1 : Hid (n - 1 ≤ 100000) := Nat.le_trans (Nat.sub_le n 1) hn
    have hz : 0 + (n - 1) = n - 1 := Nat.zero_add _
    by_cases hc1 : c = 1
    · rw [if_pos hc1] at hr
      subst hc1
      obtain rfl : n = 1 := by omega
      go_enter Try.func14, Try.ntmps14
      go_wp2_with fail
      go_region_with (go_at_call 20; refine (rPush4_any _ _ _ _ _ _ 0 w.heap.size [] (l.drop 1) _ (Ints.nil_ _ _ _) hr.drew (Nat.zero_le _) (Nat.le_refl _) (by omega) hn1.out).mono ?_; rintro e w1 ⟨A3, c3, rfl, ho, hb⟩; have hc1 : w1.cell? ⟨b, off, none⟩ = some (.int .i64 x) := (hb.cell (p := ⟨b, off, none⟩) hbb).trans hc)
      all_goals
        go_wp2_with fail
        go_ret3
        exact ⟨A3, c3, by rw [HH.out]; rfl, ho, Below.trans (Below.refl w.heap.size w).drew hb⟩
    · rw [if_neg hc1] at hr
      go_enter Try.func14, Try.ntmps14
      go_wp2_with fail
      go_region_with (go_at_call 20; refine (rPush4_any _ _ _ _ _ _ 0 w.heap.size [] (l.drop 1) _ (Ints.nil_ _ _ _) hr.drew (Nat.zero_le _) (Nat.le_refl _) (by omega) hn1.out).mono ?_; rw [hz]; rintro e w1 ⟨A3, c3, rfl, ho, hb⟩; have hc1 : w1.cell? ⟨b, off, none⟩ = some (.int .i64 x) := (hb.cell (p := ⟨b, off, none⟩) hbb).trans hc)
      all_goals
        go_wp2_with fail
        go_ret3
        exact ⟨A3, c3, by rw [HH.out, HD.out]; rfl, ho, Below.trans (Below.refl w.heap.size w).drew hb⟩
set_option maxHeartbeats 800000 in
theorem rBack4_any (A : Option Addr) (n c : Nat) (l : List Int) (w : World) (hl : Ints w w.heap.size A n l) (hn : n ≤ 100000) (hnc : n ≤ c) :
    Calls Try.prog 16 #[.slice A n c] w fun e w' => ∃ A' c', e = .returned (.tuple #[.int .i64 (l.getD (n - 1) 0), .slice A' (n - 1) c', .bool (decide (0 < n))]) ∧ OwI w' w.heap.size 3 A' (n - 1) c' (l.take (n - 1)) ∧ Below w.heap.size w w' := by
  rcases Nat.eq_zero_or_pos n with h0 | h0
  · have hb0 : ((n : Int) == 0) = true := by simp; omega
    have hl0 : l = [] := List.eq_nil_of_length_eq_zero (by rw [hl.len]; exact h0)
    subst hl0 h0
    go_enter Try.func16, Try.ntmps16
    go_wp2
    go_ret3
    exact ⟨none, 0, rfl, OwI.nil_ _ _ _ _, Below.refl _ _⟩
  · have hr := hl.take1 (Nat.sub_le n 1)
    obtain ⟨b, off, x, rfl, hbb, hx, hc⟩ := hl.at_ (show n - 1 < n by omega)
    have hb0 : ((n : Int) == 0) = false := by simp; omega
    have hh : l.getD (n - 1) 0 = x := by rw [List.getD_eq_getElem?_getD, hx.out]; rfl
    have hd : decide (0 < n) = true := by simpa using h0
    have HH := Lib.hid hh
    have HD := Lib.hid hd
    clear hh hd
    have i1 : (1 : Int) ≤ (n : Int) := by omega
    have i2 : (0 : Int) ≤ (n : Int) - 1 := by omega
    have i3 : (n : Int) - 1 < (n : Int) := by omega
    have i4 : (n : Int) - 1 ≤ (c : Int) := by omega
    have i5 : ((n : Int) - 1).toNat = n - 1 := by omega
    have i6 : IntKind.i64.wrap ((n : Int) - 1) = (n : Int) - 1 := IntWalk.i64_in _ (by omega)
    have hn1 : Hid (n - 1 ≤ 100000) := Nat.le_trans (Nat.sub_le n 1) hn
    have hz : 0 + (n - 1) = n - 1 := Nat.zero_add _
    go_enter Try.func16, Try.ntmps16
    go_wp2_with fail
    go_region_with (go_at_call 20; refine (rPush4_any _ _ _ _ _ _ 0 w.heap.size [] (l.take (n - 1)) _ (Ints.nil_ _ _ _) hr.drew (Nat.zero_le _) (Nat.le_refl _) (by omega) hn1.out).mono ?_; rw [hz]; rintro e w1 ⟨A3, c3, rfl, ho, hb⟩; have hc1 : w1.cell? ⟨b, off + (n - 1), none⟩ = some (.int .i64 x) := (hb.cell (p := ⟨b, off + (n - 1), none⟩) hbb).trans hc)
    all_goals
      go_wp2_with fail
      go_ret3
      exact ⟨A3, c3, by rw [HH.out, HD.out]; rfl, ho, Below.trans (Below.refl w.heap.size w).drew hb⟩
end Go.Proofs.Ytaajjojgpphjiaa
