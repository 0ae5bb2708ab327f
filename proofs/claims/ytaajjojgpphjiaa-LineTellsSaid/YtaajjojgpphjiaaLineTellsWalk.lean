/-
  The walk of the statement LineTells. Conditions: none.
-/
import Derived.Test.YtaajjojgpphjiaaLineDropsWalk
import Derived.Test.YtaajjojgpphjiaaLineRef3
namespace Go.Proofs.Ytaajjojgpphjiaa
open Go.RowKit

theorem sameL_eq_sameB (a b : List Int) : sameL a b = sameB a b := by
  unfold sameL sameB
  simp [Bool.eq_iff_iff]

set_option maxRecDepth 100000 in
set_option maxHeartbeats 4000000 in
theorem LineTells_in (A1 : Option Addr) (n1 c1 : Nat) (l : List Int) (A2 : Option Addr) (n2 c2 : Nat) (m : List Int) (x : Int) (w : World) (hl : Ints w w.heap.size A1 n1 l) (hc1 : n1 ≤ c1) (hm : Ints w w.heap.size A2 n2 m) (hc2 : n2 ≤ c2) (h1 : n1 ≤ 200) (h2 : n2 ≤ 200) :
    Calls Try.prog 4 #[.slice A1 n1 c1, .slice A2 n2 c2, .int .i64 x] w fun e w' => e = .returned (.bool true) ∧ Below w.heap.size w w' := by
  have hrow : tooGreat [(A1, n1, c1), (A2, n2, c2)] = false := by simp [tooGreat]; omega
  have HRW := Lib.hid hrow
  clear hrow
  have hl0 := (hl.alloc (Nat.le_refl _) (.cells #[rowVal (A1, n1, c1), rowVal (A2, n2, c2)] 22))
  have hm0 := (hm.alloc (Nat.le_refl _) (.cells #[rowVal (A1, n1, c1), rowVal (A2, n2, c2)] 22))
  go_enter Try.func4, Try.ntmps4
  go_wp2_with fail
  refine (Great_any _ _ _ _ [(_, n1, c1), (_, n2, c2)] _ (rows_new2 w _ (_, n1, c1) (_, n2, c2) _ rfl) (by omega) (by simp; omega)).mono ?_
  rw [HRW.out]
  rintro e w' ⟨rfl, rfl⟩
  go_wp2_with fail
  refine (Front_any _ _ _ l _ (hl0.more (by simp)) (by omega) hc1).mono ?_
  rintro e w1 ⟨A3, c3, rfl, ho3, hb3⟩
  have hbw1 : Below w.heap.size w w1 := (Below.new_ _ _).trans (hb3.mono (by simp))
  have hi3 := ho3.ints
  have hl1 := (hl.below hbw1).more hbw1.size
  clear hl0 hm0 ho3 hb3
  go_wp2_with fail
  refine (rFront4_any _ _ _ l _ hl1 (by omega) hc1).mono ?_
  rintro e w2 ⟨A4, c4, rfl, ho4, hb4⟩
  have hbw2 := hbw1.trans (hb4.mono hbw1.size)
  have hi4 := ho4.ints
  have hl2 := (hl.below hbw2).more hbw2.size
  replace hi3 := (hi3.below hb4).more hb4.size
  clear hl1 ho4 hb4 hbw1
  go_wp2_with fail
  refine (Back_any _ _ _ l _ hl2 (by omega) hc1).mono ?_
  rintro e w3 ⟨A5, c5, rfl, ho5, hb5⟩
  have hbw3 := hbw2.trans (hb5.mono hbw2.size)
  have hi5 := ho5.ints
  have hl3 := (hl.below hbw3).more hbw3.size
  replace hi3 := (hi3.below hb5).more hb5.size
  replace hi4 := (hi4.below hb5).more hb5.size
  clear hl2 ho5 hb5 hbw2
  go_wp2_with fail
  refine (rBack4_any _ _ _ l _ hl3 (by omega) hc1).mono ?_
  rintro e w4 ⟨A6, c6, rfl, ho6, hb6⟩
  have hbw4 := hbw3.trans (hb6.mono hbw3.size)
  have hi6 := ho6.ints
  replace hi3 := (hi3.below hb6).more hb6.size
  replace hi4 := (hi4.below hb6).more hb6.size
  replace hi5 := (hi5.below hb6).more hb6.size
  clear hl3 ho6 hb6 hbw3
  have e1 : (l.headD 0 != l.headD 0) = false := by simp
  have e2 : (decide (0 < n1) != decide (0 < n1)) = false := by simp
  have e3 : (l.getD (n1 - 1) 0 != l.getD (n1 - 1) 0) = false := by simp
  have e4 : sameB (l.drop 1) (l.drop 1) = true := by simp [sameB]
  have e5 : sameB (l.take (n1 - 1)) (l.take (n1 - 1)) = true := by simp [sameB]
  have E4 := Lib.hid e4
  have E5 := Lib.hid e5
  clear e4 e5
  go_wp2_with fail
  refine (rSame4_any _ _ _ _ _ _ _ _ (l.drop 1) (l.drop 1) _ hi3 hi4 (by omega) (by omega)).mono ?_
  rw [E4.out]
  rintro e w5 ⟨rfl, hb5⟩
  have hbw5 := hbw4.trans (hb5.mono hbw4.size)
  replace hi5 := (hi5.below hb5).more hb5.size
  replace hi6 := (hi6.below hb5).more hb5.size
  clear hi3 hi4 hb5 hbw4
  go_wp2_with fail
  refine (rSame4_any _ _ _ _ _ _ _ _ _ _ _ hi5 hi6 (by omega) (by omega)).mono ?_
  rw [E5.out]
  rintro e w6 ⟨rfl, hb6⟩
  have hbw6 := hbw5.trans (hb6.mono hbw5.size)
  have hl6 := (hl.below hbw6).more hbw6.size
  have hm6 := (hm.below hbw6).more hbw6.size
  clear hi5 hi6 hb6 hbw5 e1 e2 e3 E4 E5
  go_wp2_with fail
  refine (Drop_any _ _ _ _ _ _ l m _ hl6 hm6 (by omega) (by omega)).mono ?_
  rintro e w7 ⟨A7, c7, rfl, ho7, hb7⟩
  have hbw7 := hbw6.trans (hb7.mono hbw6.size)
  have hi7 := ho7.ints
  have hl7 := (hl.below hbw7).more hbw7.size
  have hm7 := (hm.below hbw7).more hbw7.size
  clear hl6 hm6 hb7 hbw6 ho7
  go_wp2_with fail
  refine (rDrop4_any _ _ _ _ _ _ l m _ hl7 hm7 (by omega) (by omega)).mono ?_
  rintro e w8 ⟨A8, c8, rfl, ho8, hb8⟩
  have hbw8 := hbw7.trans (hb8.mono hbw7.size)
  have hi8 := ho8.ints
  replace hi7 := (hi7.below hb8).more hb8.size
  have hln : (dropRun l m).1.length ≤ 200 := by
    have : ∀ (ms : List Int) (s : List Int × Nat), (ms.foldl (fun s x => if x ∈ s.1 then (s.1.erase x, s.2 + 1) else s) s).1.length ≤ s.1.length := by
      intro ms
      induction ms with
      | nil => intro s; exact Nat.le_refl _
      | cons y ys ih =>
        intro s
        rw [List.foldl_cons]
        refine Nat.le_trans (ih _) ?_
        split
        · rw [List.length_erase_of_mem (by assumption)]; omega
        · exact Nat.le_refl _
    have h : _ ≤ l.length := this m (l, 0)
    have hh := hl.len
    unfold dropRun
    omega
  clear hl7 hm7 hb8 hbw7 ho8
  have e4 : sameB (dropRun l m).1 (dropRun l m).1 = true := by simp [sameB]
  have E4 := Lib.hid e4
  clear e4
  go_wp2_with fail
  refine (rSame4_any _ _ _ _ _ _ _ _ _ _ _ hi7 hi8 (by omega) (by omega)).mono ?_
  rw [E4.out]
  rintro e w9 ⟨rfl, hb9⟩
  have hbw9 := hbw8.trans (hb9.mono hbw8.size)
  have hl9 := (hl.below hbw9).more hbw9.size
  have hm9 := (hm.below hbw9).more hbw9.size
  clear hi7 hi8 hb9 hbw8 hln
  have e5 : (((dropRun l m).2 : Int) == ((dropRun l m).2 : Int)) = true := by simp
  go_wp2_with fail
  refine (Push_any _ _ _ _ _ _ l m _ hl9 hm9 (by omega) (by omega) hc1).mono ?_
  rintro e w10 ⟨A10, c10, rfl, ho10, hb10⟩
  have hbw10 := hbw9.trans (hb10.mono hbw9.size)
  have hi10 := ho10.ints
  have hl10 := (hl.below hbw10).more hbw10.size
  have hm10 := (hm.below hbw10).more hbw10.size
  clear hl9 hm9 hb10 hbw9 ho10 e5
  go_wp2_with fail
  refine (rPush4_any _ _ _ _ _ _ _ _ l m _ hl10 hm10 (Nat.le_refl _) (Nat.le_refl _) (by omega) (by omega)).mono ?_
  rintro e w11 ⟨A11, c11, rfl, ho11, hb11⟩
  have hbw11 := hbw10.trans (hb11.mono hbw10.size)
  have hi11 := ho11.ints
  replace hi10 := (hi10.below hb11).more hb11.size
  clear hl10 hm10 hb11 hbw10 ho11
  have e4 : sameB (l ++ m) (l ++ m) = true := by simp [sameB]
  have E4 := Lib.hid e4
  clear e4
  go_wp2_with fail
  refine (rSame4_any _ _ _ _ _ _ _ _ _ _ _ hi10 hi11 (by omega) (by omega)).mono ?_
  rw [E4.out]
  rintro e w12 ⟨rfl, hb12⟩
  have hbw12 := hbw11.trans (hb12.mono hbw11.size)
  have hl12 := (hl.below hbw12).more hbw12.size
  clear hi10 hi11 hb12 hbw11
  have e5 : (placeOf l x == placeOf l x) = true := by simp
  go_wp2_with fail
  refine (Place_any _ _ _ l x _ hl12 (by omega)).mono ?_
  rintro e w' ⟨rfl, rfl⟩
  go_wp2_with fail
  refine (rPlace4_any _ _ _ _ l x _ hl12 (by omega)).mono ?_
  rintro e w' ⟨rfl, rfl⟩
  go_wp2_with fail
  refine (Turned_any _ _ _ l _ hl12 (by omega)).mono ?_
  rintro e w13 ⟨A13, c13, rfl, ho13, hb13⟩
  have hbw13 := hbw12.trans (hb13.mono hbw12.size)
  have hi13 := ho13.ints
  have hl13 := (hl.below hbw13).more hbw13.size
  clear hl12 hb13 hbw12 ho13 e5
  go_wp2_with fail
  refine (rTurned4_any _ _ _ l _ hl13 (by omega)).mono ?_
  rintro e w14 ⟨A14, c14, rfl, ho14, hb14⟩
  have hbw14 := hbw13.trans (hb14.mono hbw13.size)
  have hi14 := ho14.ints
  replace hi13 := (hi13.below hb14).more hb14.size
  clear hl13 hb14 hbw13 ho14
  have e4 : sameB l.reverse l.reverse = true := by simp [sameB]
  have E4 := Lib.hid e4
  clear e4
  go_wp2_with fail
  refine (rSame4_any _ _ _ _ _ _ _ _ _ _ _ hi13 hi14 (by omega) (by omega)).mono ?_
  rw [E4.out]
  rintro e w15 ⟨rfl, hb15⟩
  have hbw15 := hbw14.trans (hb15.mono hbw14.size)
  have hl15 := (hl.below hbw15).more hbw15.size
  have hm15 := (hm.below hbw15).more hbw15.size
  clear hi13 hi14 hb15 hbw14
  have e5 : (sameB l m == sameB l m) = true := by simp
  go_wp2_with fail
  refine (Same_any _ _ _ _ _ _ l m _ hl15 hm15 (by omega) (by omega)).mono ?_
  rw [sameL_eq_sameB]
  rintro e w16 ⟨rfl, hb16⟩
  have hbw16 := hbw15.trans (hb16.mono hbw15.size)
  have hl16 := (hl.below hbw16).more hbw16.size
  have hm16 := (hm.below hbw16).more hbw16.size
  clear hl15 hm15 hb16 hbw15
  go_wp2_with fail
  refine (rSame4_any _ _ _ _ _ _ _ _ l m _ hl16 hm16 (by omega) (by omega)).mono ?_
  rintro e w17 ⟨rfl, hb17⟩
  have hbw17 := hbw16.trans (hb17.mono hbw16.size)
  clear hl16 hm16 hb17 hbw16
  go_wp2_with fail
  refine (Wakes_any _).mono ?_
  rintro e w18 ⟨rfl, hb18⟩
  go_wp2_with fail
  go_ret
  exact ⟨rfl, hbw17.trans (hb18.mono hbw17.size)⟩

set_option maxRecDepth 100000 in
set_option maxHeartbeats 2000000 in
theorem LineTells_walk (A1 : Option Addr) (n1 c1 : Nat) (l : List Int) (A2 : Option Addr) (n2 c2 : Nat) (m : List Int) (x : Int) (w : World) (hl : Ints w w.heap.size A1 n1 l) (hc1 : n1 ≤ c1) (hm1 : n1 ≤ 9223372036854775807) (hm : Ints w w.heap.size A2 n2 m) (hc2 : n2 ≤ c2) (hm2 : n2 ≤ 9223372036854775807) :
    Calls Try.prog 4 #[.slice A1 n1 c1, .slice A2 n2 c2, .int .i64 x] w fun e w' => e = .returned (.bool true) ∧ Below w.heap.size w w' := by
  by_cases hg : n1 ≤ 200 ∧ n2 ≤ 200
  · exact LineTells_in A1 n1 c1 l A2 n2 c2 m x w hl hc1 hm hc2 hg.1 hg.2
  · have hrow : tooGreat [(A1, n1, c1), (A2, n2, c2)] = true := by simp [tooGreat]; omega
    have HRW := Lib.hid hrow
    clear hrow hg
    go_enter Try.func4, Try.ntmps4
    go_wp2_with fail
    refine (Great_any _ _ _ _ [(_, n1, c1), (_, n2, c2)] _ (rows_new2 w _ (_, n1, c1) (_, n2, c2) _ rfl) (by omega) (by simpa using ⟨hm1, hm2⟩)).mono ?_
    rw [HRW.out]
    rintro e w' ⟨rfl, rfl⟩
    go_wp2_with fail
    refine (Wakes_any _).mono ?_
    rintro e w1 ⟨rfl, hb⟩
    go_wp2_with fail
    go_ret
    exact ⟨rfl, (Below.new_ _ _).trans (hb.mono (by simp))⟩
end Go.Proofs.Ytaajjojgpphjiaa
