/-
  The walk of the statement IdleDrops. Conditions: none.
-/
import Derived.Test.YtepofpbpolenlaaIdleWakes
import Derived.Test.YtepofpbpolenlaaOpenRe
import Derived.Test.YtepofpbpolenlaaLineRef2p
import Derived.Deep.RegionHeld3
namespace Go.Proofs.Ytepofpbpolenlaa
open Go.RowKit Go.Shelf

theorem filter_again (p : Re → Bool) (l : List Re) : (l.filter p).filter p = l.filter p := by simp
theorem filter_none (p : Re → Bool) (l : List Re) : ((l.filter (fun x => !p x)).filter p).length = 0 := by
  rw [List.filter_filter, List.length_eq_zero_iff, List.filter_eq_nil_iff]
  simp
theorem filter_get {p : Re → Bool} {l : List Re} {i : Nat} {x : Re} (h : l[i]? = some x) (hp : p x = true) : (l.filter p)[((l.take i).filter p).length]? = some x := by
  have hi := (List.getElem?_eq_some_iff.1 h).1
  have e : l.filter p = (l.take i).filter p ++ (l.drop i).filter p := by rw [← List.filter_append, List.take_append_drop]
  rw [e, List.getElem?_append_right (Nat.le_refl _), Nat.sub_self, List.drop_eq_getElem_cons hi]
  have : l[i] = x := by rw [List.getElem?_eq_getElem hi] at h; injection h
  rw [this, List.filter_cons, if_pos hp]
  rfl
theorem wrap_ne (x : Int) (h : (Lit.int .i64 x).wf = true) : IntKind.i64.wrap (x + 1) ≠ x := by
  have := bd_i64 h
  by_cases e : x = 9223372036854775807
  · subst e; decide
  · rw [IntWalk.i64_in _ (by omega)]; omega
theorem has_other (s t y : Int) (h : y ≠ s) : hasAll [(s, t)] [y] = false := by simp [hasAll, h]

def IDr (W0 : World) (l : List Re) (ls : List Int) (n : Nat) (s9 s10 : Value) (wr : World) : Prop :=
  ∃ (i k : Nat), i ≤ n ∧ k ≤ i ∧ s10 = .int .i64 i ∧ s9 = .int .i64 k ∧ Hid (k = ((l.take i).filter (fun x => !inR ls x)).length) ∧ Below W0.heap.size W0 wr

set_option maxRecDepth 100000 in
set_option maxHeartbeats 4000000 in
theorem IdleDrops_in (A1 : Option Addr) (n1 c1 : Nat) (l : List Re) (A3 : Option Addr) (n3 c3 : Nat) (ls : List Int) (w : World)
    (hl : Res w w.heap.size A1 n1 l) (hok : ∀ x ∈ l, okRe x) (hs : Ints w w.heap.size A3 n3 ls) (h1 : n1 ≤ 100) (h3 : n3 ≤ 100) :
    Calls Try.prog 5 #[.slice A1 n1 c1, .slice A3 n3 c3] w fun e w' => e = .returned (.bool true) ∧ Below w.heap.size w w' := by
  have g1 : (decide (100 < n1) || decide (100 < n3)) = false := by simp; omega
  have G1 := Lib.hid g1
  have HOK := Lib.hid hok
  clear g1 hok
  have hn0 := hl.1
  have hsum := filter_both (inR ls) l
  rw [hn0] at hsum
  obtain ⟨a, ha⟩ : ∃ a, a = l.filter (fun x => !inR ls x) := ⟨_, rfl⟩
  obtain ⟨m, hm⟩ : ∃ m, m = (l.filter (inR ls)).length := ⟨_, rfl⟩
  have hag : a.filter (fun x => !inR ls x) = a := by rw [ha]; exact filter_again _ _
  have hno : (a.filter (inR ls)).length = 0 := by rw [ha]; exact filter_none _ _
  have hmem : ∀ x ∈ a, inR ls x = false := by rw [ha]; intro x hx; simpa using (List.mem_filter.1 hx).2
  rw [← ha, ← hm] at hsum
  have hal : a.length ≤ n1 := by omega
  have hml : m ≤ n1 := by omega
  have HA := Lib.hid ha
  have HM := Lib.hid hm
  have HAG := Lib.hid hag
  have HNO := Lib.hid hno
  have HMEM := Lib.hid hmem
  have HSUM := Lib.hid hsum
  have HL := Lib.hid hn0
  clear ha hm hag hno hmem hsum hn0
  go_enter Try.func5, Try.ntmps5
  go_wp2_with fail
  refine (great21_any _ _ _ _ _ _ _ (by omega) (by omega)).mono ?_
  rw [G1.out]
  rintro e w' ⟨rfl, rfl⟩
  go_wp2_with fail
  refine (Drop_row _ _ _ l _ _ _ ls _ hl (by omega) hs (by omega)).mono ?_
  rw [← HA.out, ← HM.out]
  rintro e w1 ⟨B1, d1, rfl, ho1, hb1⟩
  have r1 := ho1.recs
  clear ho1
  have hs1 := (hs.below hb1).more hb1.size
  go_wp2_with fail
  refine (Drop_row _ _ _ a _ _ _ ls _ r1 (by omega) hs1 (by omega)).mono ?_
  rw [HAG.out, HNO.out]
  rintro e w2 ⟨B2, d2, rfl, ho2, hb2⟩
  have r2 := ho2.recs
  replace r1 := (r1.below hb2).more hb2.size
  have hbw2 := hb1.trans (hb2.mono hb1.size)
  clear ho2 hb1 hb2 hs1
  have e1 : ((a.length : Int) + (m : Int) != (n1 : Int)) = false := by have := HSUM.out; simp; omega
  go_wp2_with fail
  refine (rSame21_same _ _ _ _ _ _ _ _ _ _ r2 r1 (by omega) (by omega)).mono ?_
  rintro e w3 ⟨rfl, hb3⟩
  have hbw3 := hbw2.trans (hb3.mono hbw2.size)
  replace r1 := (r1.below hb3).more hb3.size
  have hl3 := (hl.below hbw3).more hbw3.size
  have hs3 := (hs.below hbw3).more hbw3.size
  clear hb3 hbw2 r2 e1
  go_wp2_with fail
  go_loopw [9, 10] (fun s9 s10 wr => IDr w3 l ls n1 s9 s10 wr) (fun _ s10 _ => n1 - (intOf s10).toNat)
  case atStart => exact ⟨0, 0, Nat.zero_le _, Nat.le_refl _, rfl, rfl, by show _ = _; simp, Below.refl _ _⟩
  case round =>
    obtain ⟨i, k, hi, hki, rfl, rfl, hk, hb⟩ := hrel
    by_cases hlt : i < n1
    · obtain ⟨b, off, x, rfl, hbb, hx, hc1, hc2⟩ := Res.cells (hl3.below hb) hlt
      have hxm := List.mem_of_getElem? hx.out
      have hokx := HOK.out x hxm
      have hcnt : (l.take (i + 1)).filter (fun x => !inR ls x) = (l.take i).filter (fun x => !inR ls x) ++ (if inR ls x = true then [] else [x]) := by
        rw [take_succ_of hx.out, List.filter_append]
        cases hp : inR ls x <;> simp [hp]
      have HCNT := Lib.hid hcnt
      have hsr := (hs3.below hb).more hb.size
      clear hcnt hxm
      cases hp : inR ls x
      · have hpm : x.1 ∉ ls := by simpa [inR] using hp
        have hpl := placeOf_miss hpm
        have HPL := Lib.hid hpl
        have hk2 : Hid (k + 1 = ((l.take (i + 1)).filter (fun x => !inR ls x)).length) := by show _ = _; rw [HCNT.out, hp, if_neg (by decide), List.length_append, ← hk.out]; rfl
        have hak : a[k]? = some x := by rw [HA.out, hk.out]; exact filter_get (p := fun x => !inR ls x) hx.out (by simp [hp])
        have hka : k < a.length := (List.getElem?_eq_some_iff.1 hak).1
        obtain ⟨b2, off2, y, rfl, hbb2, hy, hd1, hd2⟩ := Res.cells (r1.below hb) hka
        obtain rfl : y = x := by have := hy.out; rw [hak] at this; injection this with this; exact this.symm
        have hE := fun wx => eqRe y y wx
        rw [show decide (y = y) = true by simp] at hE
        unfold valRe at hE
        have hd0 : decide (k < a.length) = true := by simpa using hka
        obtain ⟨z, hz⟩ : ∃ z, IntKind.i64.wrap (y.1 + 1) = z := ⟨_, rfl⟩
        have hzy : z ≠ y.1 := by rw [← hz]; exact wrap_ne y.1 hokx.1
        have hho : hasAll [(y.1, 0)] [z] = false := has_other _ _ _ hzy
        have HHO := Lib.hid hho
        have lb1 : b < wr.heap.size := Nat.lt_of_lt_of_le hbb hb.size
        have lb2 : b2 < wr.heap.size := Nat.lt_of_lt_of_le hbb2 hb.size
        have i1 : (0 : Int) ≤ (i : Int) := by omega
        have i2 : (i : Int) < (n1 : Int) := by omega
        have i3 : (0 : Int) ≤ (k : Int) := by omega
        have i4 : (k : Int) < (a.length : Int) := by omega
        obtain ⟨WA, hWA⟩ : ∃ W, W = (wr.alloc (.cells #[.int .i64 y.1, .int .i64 0] 32)).alloc (.cells #[.int .i64 z] 3) := ⟨_, rfl⟩
        obtain ⟨WB, hWB⟩ : ∃ W, W = (wr.alloc (.cells #[.int .i64 z] 3)).alloc (.cells #[.int .i64 y.1, .int .i64 0] 32) := ⟨_, rfl⟩
        have rA : Res WA.drew WA.heap.size (some ⟨wr.heap.size, 0, none⟩) 1 [(y.1, 0)] := by subst hWA; exact ((Res.new1 wr _ rfl (y.1, 0) 32).alloc (by simp) (.cells #[.int .i64 z] 3)).drew.more (by simp)
        have iA : Ints WA.drew WA.heap.size (some ⟨wr.heap.size + 1, 0, none⟩) 1 [z] := by subst hWA; exact (Ints.at1_ (wr.alloc (.cells #[.int .i64 y.1, .int .i64 0] 32)) (wr.heap.size + 1) z 3 (by simp)).drew.more (by simp)
        have iB : Ints WB.drew WB.heap.size (some ⟨wr.heap.size, 0, none⟩) 1 [z] := by subst hWB; exact ((Ints.at1_ wr _ z 3 rfl).alloc (by simp) (.cells #[.int .i64 y.1, .int .i64 0] 32)).drew.more (by simp)
        have rB : Res WB.drew WB.heap.size (some ⟨wr.heap.size + 1, 0, none⟩) 1 [(y.1, 0)] := by subst hWB; exact (Res.new1 (wr.alloc (.cells #[.int .i64 z] 3)) (wr.heap.size + 1) (by simp) (y.1, 0) 32).drew.more (by simp)
        have bA : Below wr.heap.size wr WA.drew := by subst hWA; exact ((Below.new_ wr _).alloc (by simp) _).drew
        have bB : Below wr.heap.size wr WB.drew := by subst hWB; exact ((Below.new_ wr _).alloc (by simp) _).drew
        have cA := Has_row _ 1 1 [(y.1, 0)] _ 1 1 [z] WA.drew rA (by omega) iA (by omega)
        have cB := Has_row _ 1 1 [(y.1, 0)] _ 1 1 [z] WB.drew rB (by omega) iB (by omega)
        rw [hho] at cA cB
        rw [hWA] at cA bA
        rw [hWB] at cB bB
        have CA := Lib.hid cA
        have CB := Lib.hid cB
        have hn3 : Hid (n3 ≤ 100000) := by show _ ≤ _; omega
        clear cA cB hWA hWB rA iA rB iB
        clear hpl hpm hp hzy hho hak hk
        go_wp2_with fail
        go_region_held3 (fun w' => w'.cell? ⟨b, off + i * 2, none⟩ = some (.int .i64 y.1) ∧ w'.cell? ⟨b, off + i * 2 + 1, none⟩ = some (.int .i64 y.2) ∧ w'.cell? ⟨b2, off2 + k * 2, none⟩ = some (.int .i64 y.1) ∧ w'.cell? ⟨b2, off2 + k * 2 + 1, none⟩ = some (.int .i64 y.2))
          (first | (go_keep; done) | (refine ⟨?_, ?_, ?_, ?_⟩; exact (hbq.cell (p := ⟨b, off + i * 2, none⟩) lb1).trans hc1; exact (hbq.cell (p := ⟨b, off + i * 2 + 1, none⟩) lb1).trans hc2; exact (hbq.cell (p := ⟨b2, off2 + k * 2, none⟩) lb2).trans hd1; exact (hbq.cell (p := ⟨b2, off2 + k * 2 + 1, none⟩) lb2).trans hd2))
          (first
            | (go_at_call 12; refine (CA.out).mono ?_; rintro e w5 ⟨rfl, hb5⟩; have hbq : Below wr.heap.size wr w5 := bA.trans (hb5.mono bA.size); have hsq := hsr.below' hbq (Nat.le_refl _))
            | (go_at_call 12; refine (CB.out).mono ?_; rintro e w5 ⟨rfl, hb5⟩; have hbq : Below wr.heap.size wr w5 := bB.trans (hb5.mono bB.size); have hsq := hsr.below' hbq (Nat.le_refl _))
            | (go_at_call 20; refine (rPlace4_any _ _ _ _ ls y.1 _ hsq hn3.out).mono ?_; rw [HPL.out]; rintro e w' ⟨rfl, rfl⟩))
        all_goals
          have hbw := hb.trans (hbq.mono hb.size)
          clear hbq hsq hb5
          go_wp2_with fail
          go_roundw
          case rel => exact ⟨i + 1, k + 1, by omega, by omega, by go_num, by go_num, hk2, hbw⟩
          case measure => simp [intOf]; omega
      · have hpm : x.1 ∈ ls := by simpa [inR] using hp
        obtain ⟨q, hq, _, _, _, _⟩ := placeOf_mem hpm
        have HQ := Lib.hid hq
        have hqd : decide ((q : Int) < 0) = false := by simp
        have hk2 : Hid (k = ((l.take (i + 1)).filter (fun x => !inR ls x)).length) := by show _ = _; rw [HCNT.out, hp, if_pos rfl, List.append_nil]; exact hk.out
        have HP := Lib.hid hp
        clear hq hp hpm hk
        by_cases hka : k < a.length
        · obtain ⟨b2, off2, y, rfl, hbb2, hy, hd1, hd2⟩ := Res.cells (r1.below hb) hka
          have hyx : y ≠ x := by
            rintro rfl
            have := HMEM.out y (List.mem_of_getElem? hy.out)
            rw [HP.out] at this
            cases this
          have hE := fun wx => eqRe y x wx
          rw [decide_eq_false hyx] at hE
          unfold valRe at hE
          have hd0 : decide (k < a.length) = true := by simpa using hka
          have HYX := Lib.hid hyx
          clear hyx
          go_wp2_with fail
          go_quiet (fail)
          have hb' := below_drewN hb nq
          go_wp2_with fail
          refine (rPlace4_any _ _ _ _ ls x.1 _ (hsr.drewN nq) (by omega)).mono ?_
          rw [HQ.out]
          rintro e w' ⟨rfl, rfl⟩
          go_wp2_with fail
          go_roundw
          case rel => exact ⟨i + 1, k, by omega, by omega, by go_num, rfl, hk2, hb'⟩
          case measure => simp [intOf]; omega
        · have hd0 : decide (k < a.length) = false := by simpa using hka
          go_wp2_with fail
          go_quiet (fail)
          have hb' := below_drewN hb nq
          go_wp2_with fail
          refine (rPlace4_any _ _ _ _ ls x.1 _ (hsr.drewN nq) (by omega)).mono ?_
          rw [HQ.out]
          rintro e w' ⟨rfl, rfl⟩
          go_wp2_with fail
          go_roundw
          case rel => exact ⟨i + 1, k, by omega, by omega, by go_num, rfl, hk2, hb'⟩
          case measure => simp [intOf]; omega
    · obtain rfl : i = n1 := by omega
      have hka : k = a.length := by
        have := hk.out
        rw [List.take_of_length_le (by rw [HL.out]; omega)] at this
        rw [this, HA.out]
      have hd : ((k : Int) == (a.length : Int)) = true := by simp; omega
      have HKA := Lib.hid hka
      clear hka hk
      go_wp2_with fail
      refine (wakes21_any _).mono ?_
      rintro e w4 ⟨rfl, hb4⟩
      go_wp2_with fail
      go_ret
      exact ⟨rfl, (hbw3.trans (hb.mono hbw3.size)).trans (hb4.mono (Nat.le_trans hbw3.size hb.size))⟩

set_option maxRecDepth 100000 in
set_option maxHeartbeats 2000000 in
theorem IdleDrops_walk (A1 : Option Addr) (n1 c1 : Nat) (l : List Re) (A3 : Option Addr) (n3 c3 : Nat) (ls : List Int) (w : World)
    (hl : Res w w.heap.size A1 n1 l) (hok : ∀ x ∈ l, okRe x) (hm1 : n1 ≤ 9223372036854775807) (_ : n1 ≤ c1) (hs : Ints w w.heap.size A3 n3 ls) (hm3 : n3 ≤ 9223372036854775807) :
    Calls Try.prog 5 #[.slice A1 n1 c1, .slice A3 n3 c3] w fun e w' => e = .returned (.bool true) ∧ Below w.heap.size w w' := by
  by_cases hg : n1 ≤ 100 ∧ n3 ≤ 100
  · exact IdleDrops_in A1 n1 c1 l A3 n3 c3 ls w hl hok hs hg.1 hg.2
  · have hg1 : (decide (100 < n1) || decide (100 < n3)) = true := by simp; omega
    have G1 := Lib.hid hg1
    clear hg1 hg
    go_enter Try.func5, Try.ntmps5
    go_wp2_with fail
    refine (great21_any _ _ _ _ _ _ _ (by omega) (by omega)).mono ?_
    rw [G1.out]
    rintro e w' ⟨rfl, rfl⟩
    go_wp2_with fail
    refine (wakes21_any _).mono ?_
    rintro e w1 ⟨rfl, hb⟩
    go_wp2_with fail
    go_ret
    exact ⟨rfl, hb⟩
end Go.Proofs.Ytepofpbpolenlaa
