/-
  The walk of the statement IdleTells. Conditions: none.
-/
import Derived.Test.YtepofpbpolenlaaIdleWakes
import Derived.Test.YtepofpbpolenlaaOpenRe
namespace Go.Proofs.Ytepofpbpolenlaa
open Go.RowKit Go.Shelf

set_option maxRecDepth 100000 in
set_option maxHeartbeats 4000000 in
theorem IdleTells_in (A1 : Option Addr) (n1 c1 : Nat) (l : List Re) (A2 : Option Addr) (n2 c2 : Nat) (m : List Re) (most age now : Int) (A3 : Option Addr) (n3 c3 : Nat) (ls : List Int) (w : World)
    (hl : Res w w.heap.size A1 n1 l) (hc1 : n1 ≤ c1) (hm : Res w w.heap.size A2 n2 m) (hs : Ints w w.heap.size A3 n3 ls) (h1 : n1 ≤ 100) (h2 : n2 ≤ 100) (h3 : n3 ≤ 100) :
    Calls Try.prog 7 #[.slice A1 n1 c1, .slice A2 n2 c2, .int .i64 most, .int .i64 age, .int .i64 now, .slice A3 n3 c3] w fun e w' => e = .returned (.bool true) ∧ Below w.heap.size w w' := by
  have g1 : (decide (100 < n1) || decide (100 < n3)) = false := by simp; omega
  have g2 : (decide (100 < n2) || decide (100 < 0)) = false := by simp; omega
  have G1 := Lib.hid g1
  have G2 := Lib.hid g2
  clear g1 g2
  have hlen : ∀ p : Re → Bool, (l.filter p).length ≤ 1000 := fun p => Nat.le_trans (List.length_filter_le _ _) (by rw [hl.1]; omega)
  have HLEN := Lib.hid hlen
  clear hlen
  go_enter Try.func7, Try.ntmps7
  go_wp2_with fail
  refine (great21_any _ _ _ _ _ _ _ (by omega) (by omega)).mono ?_
  rw [G1.out]
  rintro e w' ⟨rfl, rfl⟩
  go_wp2_with fail
  refine (great21_any _ _ _ _ _ _ _ (by omega) (by omega)).mono ?_
  rw [G2.out]
  rintro e w' ⟨rfl, rfl⟩
  have hpl : putM n1 most n3 ≤ 100 := by unfold putM; omega
  go_wp2_with fail
  refine (Put_any _ _ _ l most now _ _ _ ls _ hl (by omega) hs (by omega)).mono ?_
  rintro e w1 ⟨B1, d1, rfl, ho1, hb1⟩
  have r1 := ho1.recs
  clear ho1
  have hl1 := (hl.below hb1).more hb1.size
  have hs1 := (hs.below hb1).more hb1.size
  go_wp2_with fail
  refine (rPut21_any _ _ _ l most now _ _ _ ls _ hl1 (by omega) hs1 (by omega)).mono ?_
  rintro e w2 ⟨B2, d2, rfl, ho2, hb2⟩
  have r2 := ho2.recs
  replace r1 := (r1.below hb2).more hb2.size
  have hbw2 := hb1.trans (hb2.mono hb1.size)
  clear ho2 hb1 hb2 hl1 hs1
  have e2 : (putE n1 most n3 != putE n1 most n3) = false := by simp
  go_wp2_with fail
  refine (rSame21_same _ _ _ _ _ _ _ _ _ _ r1 r2 (by omega) (by omega)).mono ?_
  rintro e w3 ⟨rfl, hb3⟩
  have hbw3 := hbw2.trans (hb3.mono hbw2.size)
  have hl3 := (hl.below hbw3).more hbw3.size
  clear hb3 hbw2 r1 r2
  go_wp2_with fail
  refine (Last_any _ _ _ l _ hl3 (by omega) hc1).mono ?_
  rintro e w4 ⟨B4, d4, rfl, ho4, hb4⟩
  have hbw4 := hbw3.trans (hb4.mono hbw3.size)
  have r4 := ho4.recs
  have hl4 := (hl.below hbw4).more hbw4.size
  clear ho4 hb4 hbw3 hl3 e2
  obtain ⟨x, hx⟩ : ∃ x, x = lastRe l := ⟨_, rfl⟩
  rw [← hx]
  have HX := Lib.hid hx
  clear hx
  go_wp2_with fail
  refine (rLast21_any _ _ _ l _ ((hl4.alloc (Nat.le_refl _) _).more (by first | omega | (simp; done) | (simp; omega))) (by omega) hc1).mono ?_
  rw [← HX.out]
  rintro e w5 ⟨B5, d5, rfl, ho5, hb5⟩
  have hb5a := (Below.new_ w4 (.cells #[.int .i64 x.1, .int .i64 x.2] 32)).trans (hb5.mono (by simp))
  have hk1 : w5.heap[w4.heap.size]? = some (.cells #[.int .i64 x.1, .int .i64 x.2] 32 (0, 0)) := (hb5.block w4.heap.size (by simp)).trans (heap_alloc_new w4 _)
  obtain ⟨q1, q2, _, _⟩ := two_cells hk1
  have hlt : w4.heap.size < w5.heap.size := by have := hb5.size; simp at this; omega
  have r5 := ho5
  replace r4 := (r4.below hb5a).more hb5a.size
  have hbw5 := hbw4.trans (hb5a.mono hbw4.size)
  have hE := fun wx => eqRe x x wx
  rw [show decide (x = x) = true by simp] at hE
  unfold valRe at hE
  clear hk1 hb5 hb5a hl4 hbw4
  have e2 : (decide (0 < n1) != decide (0 < n1)) = false := by simp
  go_wp2_with fail
  refine (rSame21_same _ _ _ _ _ _ _ _ _ _ (r4.alloc (Nat.le_refl _) _) (r5.recs.alloc (Nat.le_refl _) _) (by omega) (by omega)).mono ?_
  rintro e w6 ⟨rfl, hb6⟩
  have hbw6 : Below w.heap.size w w6 := (hbw5.alloc hbw5.size _).trans (hb6.mono (by have := hbw5.size; simp; omega))
  have hl6 := (hl.below hbw6).more hbw6.size
  clear r4 r5 ho5 hb6 hbw5 q1 q2 hlt hE
  go_wp2_with fail
  refine (Old_row _ _ _ l age now _ hl6 (by omega)).mono ?_
  rintro e w7 ⟨C1, k1, C2, k2, rfl, ho7, ho7b, hb7⟩
  have hbw7 := hbw6.trans (hb7.mono hbw6.size)
  have r7 := ho7.recs
  have r7b := ho7b.recs
  have hl7 := (hl.below hbw7).more hbw7.size
  clear ho7 ho7b hb7 hbw6 hl6 e2
  go_wp2_with fail
  refine (rOld21_any _ _ _ l age now _ hl7 (by omega)).mono ?_
  rintro e w8 ⟨C3, k3, C4, k4, rfl, ho8, ho8b, hb8⟩
  have hbw8 := hbw7.trans (hb8.mono hbw7.size)
  have r8 := ho8.recs
  have r8b := ho8b.recs
  replace r7 := (r7.below hb8).more hb8.size
  replace r7b := (r7b.below hb8).more hb8.size
  have hl8 := (hl.below hbw8).more hbw8.size
  clear ho8 ho8b hb8 hbw7 hl7
  go_wp2_with fail
  refine (When_any _ _ _ l age _ hl8 (by omega)).mono ?_
  rintro e w9 ⟨rfl, hb9⟩
  have hbw9 := hbw8.trans (hb9.mono hbw8.size)
  replace r7 := (r7.below hb9).more hb9.size
  replace r7b := (r7b.below hb9).more hb9.size
  replace r8 := (r8.below hb9).more hb9.size
  replace r8b := (r8b.below hb9).more hb9.size
  have hl9 := (hl.below hbw9).more hbw9.size
  clear hb9 hbw8 hl8
  go_wp2_with fail
  refine (rWhen21_any _ _ _ l age _ hl9 (by omega)).mono ?_
  rintro e w10 ⟨rfl, hb10⟩
  have hbw10 := hbw9.trans (hb10.mono hbw9.size)
  replace r7 := (r7.below hb10).more hb10.size
  replace r7b := (r7b.below hb10).more hb10.size
  replace r8 := (r8.below hb10).more hb10.size
  replace r8b := (r8b.below hb10).more hb10.size
  clear hb10 hbw9 hl9
  have e2 : (decide (0 < n1) != decide (0 < n1)) = false := by simp
  have e3 : ((firstOf (endsOf l age)).2 != (firstOf (endsOf l age)).2) = false := by simp
  go_wp2_with fail
  refine (rSame21_same _ _ _ _ _ _ _ _ _ _ r7 r8 (by have := HLEN.out (oldR age now); omega) (by have := HLEN.out (oldR age now); omega)).mono ?_
  rintro e w11 ⟨rfl, hb11⟩
  have hbw11 := hbw10.trans (hb11.mono hbw10.size)
  replace r7b := (r7b.below hb11).more hb11.size
  replace r8b := (r8b.below hb11).more hb11.size
  clear hb11 hbw10 r7 r8
  go_wp2_with fail
  refine (rSame21_same _ _ _ _ _ _ _ _ _ _ r7b r8b (by have := HLEN.out (fun x => !oldR age now x); omega) (by have := HLEN.out (fun x => !oldR age now x); omega)).mono ?_
  rintro e w12 ⟨rfl, hb12⟩
  have hbw12 := hbw11.trans (hb12.mono hbw11.size)
  have hl12 := (hl.below hbw12).more hbw12.size
  have hs12 := (hs.below hbw12).more hbw12.size
  clear hb12 hbw11 r7b r8b
  go_wp2_with fail
  refine (Drop_row _ _ _ l _ _ _ ls _ hl12 (by omega) hs12 (by omega)).mono ?_
  rintro e w13 ⟨D1, p1, rfl, ho13, hb13⟩
  have hbw13 := hbw12.trans (hb13.mono hbw12.size)
  have r13 := ho13.recs
  have hl13 := (hl.below hbw13).more hbw13.size
  have hs13 := (hs.below hbw13).more hbw13.size
  clear hb13 hbw12 hl12 hs12 ho13 e2 e3
  go_wp2_with fail
  refine (rDrop21_any _ _ _ l _ _ _ ls _ hl13 (by omega) hs13 (by omega)).mono ?_
  rintro e w14 ⟨D2, p2, rfl, ho14, hb14⟩
  have hbw14 := hbw13.trans (hb14.mono hbw13.size)
  have r14 := ho14.recs
  replace r13 := (r13.below hb14).more hb14.size
  clear hb14 hbw13 hl13 hs13 ho14
  go_wp2_with fail
  refine (rSame21_same _ _ _ _ _ _ _ _ _ _ r13 r14 (by have := HLEN.out (fun x => !inR ls x); omega) (by have := HLEN.out (fun x => !inR ls x); omega)).mono ?_
  rintro e w15 ⟨rfl, hb15⟩
  have hbw15 := hbw14.trans (hb15.mono hbw14.size)
  have hl15 := (hl.below hbw15).more hbw15.size
  clear hb15 hbw14 r13 r14
  have e4 : (((l.filter (inR ls)).length : Int) == ((l.filter (inR ls)).length : Int)) = true := by simp
  go_wp2_with fail
  refine (Socks_any _ _ _ l _ hl15 (by omega)).mono ?_
  rintro e w16 ⟨D3, p3, rfl, ho16, hb16⟩
  have hbw16 := hbw15.trans (hb16.mono hbw15.size)
  have r16 := ho16.ints
  have hl16 := (hl.below hbw16).more hbw16.size
  clear hb16 hbw15 hl15 ho16 e4
  go_wp2_with fail
  refine (rSocks21_any _ _ _ l _ hl16 (by omega)).mono ?_
  rintro e w17 ⟨D4, p4, rfl, ho17, hb17⟩
  have hbw17 := hbw16.trans (hb17.mono hbw16.size)
  have r17 := ho17.ints
  replace r16 := (r16.below hb17).more hb17.size
  clear hb17 hbw16 hl16 ho17
  go_wp2_with fail
  refine (rSame4_same _ _ _ _ _ _ _ _ _ _ r16 r17 (by omega) (by omega)).mono ?_
  rintro e w18 ⟨rfl, hb18⟩
  have hbw18 := hbw17.trans (hb18.mono hbw17.size)
  have hl18 := (hl.below hbw18).more hbw18.size
  have hs18 := (hs.below hbw18).more hbw18.size
  clear hb18 hbw17 r16 r17
  have e5 : (hasAll l ls == hasAll l ls) = true := by simp
  go_wp2_with fail
  refine (Has_row _ _ _ l _ _ _ ls _ hl18 (by omega) hs18 (by omega)).mono ?_
  rintro e w19 ⟨rfl, hb19⟩
  have hbw19 := hbw18.trans (hb19.mono hbw18.size)
  have hl19 := (hl.below hbw19).more hbw19.size
  have hs19 := (hs.below hbw19).more hbw19.size
  clear hb19 hbw18 hl18 hs18
  go_wp2_with fail
  refine (rHas21_any _ _ _ l _ _ _ ls _ hl19 (by omega) hs19 (by omega)).mono ?_
  rintro e w20 ⟨rfl, hb20⟩
  have hbw20 := hbw19.trans (hb20.mono hbw19.size)
  have hl20 := (hl.below hbw20).more hbw20.size
  have hm20 := (hm.below hbw20).more hbw20.size
  clear hb20 hbw19 hl19 hs19
  obtain ⟨q, hq⟩ : ∃ q, q = decide (l = m) := ⟨_, rfl⟩
  have HQ := Lib.hid hq
  have e6 : (q == q) = true := by simp
  go_wp2_with fail
  refine (SameR_any _ _ _ _ _ _ l m _ hl20 hm20 (by omega) (by omega)).mono ?_
  rw [← hq]
  clear hq
  rintro e w21 ⟨rfl, hb21⟩
  have hbw21 := hbw20.trans (hb21.mono hbw20.size)
  have hl21 := (hl.below hbw21).more hbw21.size
  have hm21 := (hm.below hbw21).more hbw21.size
  clear hb21 hbw20 hl20 hm20 e5
  go_wp2_with fail
  refine (rSame21_any _ _ _ _ _ _ _ _ l m _ hl21 hm21 (by omega) (by omega)).mono ?_
  rw [← HQ.out]
  rintro e w22 ⟨rfl, hb22⟩
  have hbw22 := hbw21.trans (hb22.mono hbw21.size)
  clear hb22 hbw21 hl21 hm21
  go_wp2_with fail
  refine (wakes21_any _).mono ?_
  rintro e w23 ⟨rfl, hb23⟩
  go_wp2_with fail
  go_ret
  exact ⟨rfl, hbw22.trans (hb23.mono hbw22.size)⟩

set_option maxRecDepth 100000 in
set_option maxHeartbeats 2000000 in
theorem IdleTells_walk (A1 : Option Addr) (n1 c1 : Nat) (l : List Re) (A2 : Option Addr) (n2 c2 : Nat) (m : List Re) (most age now : Int) (A3 : Option Addr) (n3 c3 : Nat) (ls : List Int) (w : World)
    (hl : Res w w.heap.size A1 n1 l) (_ : ∀ x ∈ l, okRe x) (hm1 : n1 ≤ 9223372036854775807) (hc1 : n1 ≤ c1) (hm : Res w w.heap.size A2 n2 m) (_ : ∀ x ∈ m, okRe x) (hm2 : n2 ≤ 9223372036854775807) (_ : n2 ≤ c2) (hs : Ints w w.heap.size A3 n3 ls) (hm3 : n3 ≤ 9223372036854775807) :
    Calls Try.prog 7 #[.slice A1 n1 c1, .slice A2 n2 c2, .int .i64 most, .int .i64 age, .int .i64 now, .slice A3 n3 c3] w fun e w' => e = .returned (.bool true) ∧ Below w.heap.size w w' := by
  by_cases hg : n1 ≤ 100 ∧ n3 ≤ 100 ∧ n2 ≤ 100
  · exact IdleTells_in A1 n1 c1 l A2 n2 c2 m most age now A3 n3 c3 ls w hl hc1 hm hs hg.1 hg.2.2 hg.2.1
  · by_cases hg1 : (decide (100 < n1) || decide (100 < n3)) = true
    · have G1 := Lib.hid hg1
      clear hg1 hg
      go_enter Try.func7, Try.ntmps7
      go_wp2_with fail
      refine (great21_any _ _ _ _ _ _ _ (by omega) (by omega)).mono ?_
      rw [G1.out]
      rintro e w' ⟨rfl, rfl⟩
      go_wp2_with fail
      refine (wakes21_any _).mono ?_
      rintro e w1 ⟨rfl, hb⟩
      go_wp2_with fail
      go_ret
      exact ⟨rfl, hb⟩
    · have hg2 : (decide (100 < n2) || decide (100 < 0)) = true := by
        simp at hg1 ⊢; omega
      rw [Bool.not_eq_true] at hg1
      have G1 := Lib.hid hg1
      have G2 := Lib.hid hg2
      clear hg1 hg2 hg
      go_enter Try.func7, Try.ntmps7
      go_wp2_with fail
      refine (great21_any _ _ _ _ _ _ _ (by omega) (by omega)).mono ?_
      rw [G1.out]
      rintro e w' ⟨rfl, rfl⟩
      go_wp2_with fail
      refine (great21_any _ _ _ _ _ _ _ (by omega) (by omega)).mono ?_
      rw [G2.out]
      rintro e w' ⟨rfl, rfl⟩
      go_wp2_with fail
      refine (wakes21_any _).mono ?_
      rintro e w1 ⟨rfl, hb⟩
      go_wp2_with fail
      go_ret
      exact ⟨rfl, hb⟩
end Go.Proofs.Ytepofpbpolenlaa
