/-
  What probe.When computes, and the document's When and Top of chapter 22. Conditions: the slice arguments read as lists of at most 1000.
-/
import Derived.Test.YtfjhommmplencaaProbeTop
namespace Go.Proofs.Ytfjhommmplencaa
open Go.RowKit Go.Shelf

def endsOf (l : List Re) (long : Int) : List Int := l.map fun x => later x.2 [long]
theorem endsOf_snoc {l : List Re} {k : Nat} {x : Re} (long : Int) (hx : l[k]? = some x) : endsOf (l.take (k + 1)) long = endsOf (l.take k) long ++ [later x.2 [long]] := by
  unfold endsOf; rw [take_succ_of hx]; simp
theorem firstRun_pos : ∀ (l : List Int) (s : (Int × Int) × Nat), 0 ≤ s.1.1 → 0 ≤ (l.foldl (fun s x => (firstStep s.1 s.2 x, s.2 + 1)) s).1.1
  | [], s, h => h
  | y :: l, s, h => by
    rw [List.foldl_cons]
    refine firstRun_pos l _ ?_
    unfold firstStep
    split
    · simp
    · exact h
theorem firstOf_nonneg (l : List Int) : decide (0 ≤ (firstOf l).1) = decide (0 < l.length) := by
  cases l with
  | nil => rfl
  | cons y l =>
    have : 0 ≤ (firstOf (y :: l)).1 := by
      unfold firstOf firstRun
      rw [List.foldl_cons]
      refine firstRun_pos l _ ?_
      unfold firstStep
      rw [if_pos (.inl (by decide))]
      simp
    rw [decide_eq_true this]
    simp
set_option maxHeartbeats 1000000 in
theorem When_any (A : Option Addr) (n c : Nat) (l : List Re) (long : Int) (w : World) (hl : Res w w.heap.size A n l) (hn : n ≤ 1000) :
    Calls Try.prog 9 #[.slice A n c, .int .i64 long] w fun e w' => e = .returned (.tuple #[.int .i64 (firstOf (endsOf l long)).2, .bool (decide (0 < n))]) ∧ Below w.heap.size w w' := by
  have HL := Lib.hid hl.1
  have hfp : decide (0 ≤ (firstOf (endsOf l long)).1) = decide (0 < n) := by rw [firstOf_nonneg]; unfold endsOf; rw [List.length_map, HL.out]
  have HFP := Lib.hid hfp
  clear hfp
  go_enter Try.func9, Try.ntmps9
  go_wp2_with fail
  go_loopw [6, 12] (fun s6 s12 wr => ∃ (k : Nat) (A' : Option Addr) (c' : Nat), k ≤ n ∧ s12 = .int .i64 k ∧ s6 = .slice A' k c' ∧ OwI wr w.heap.size 3 A' k c' (endsOf (l.take k) long) ∧ Below w.heap.size w wr) (fun _ s12 _ => n - (intOf s12).toNat)
  case atStart => exact ⟨0, none, 0, Nat.zero_le _, rfl, rfl, OwI.nil_ _ _ _ _, Below.refl _ _⟩
  case round =>
    obtain ⟨k, A1, c1, hk, rfl, rfl, ho, hb⟩ := hrel
    by_cases hlt : k < n
    · obtain ⟨b, off, x, rfl, hbb, hx, hc1, hc2⟩ := Res.cells (hl.below hb) hlt
      have hst := endsOf_snoc long hx.out
      have HST := Lib.hid hst
      clear hst
      go_wp2_with (first
        | (go_at_call 20; refine (Later_any _ _ _ _ _ [long] _ (Ints.at1_ _ _ long _ (by first | omega | (simp; done) | (simp; omega))) (by omega)).mono ?_; rintro e w' ⟨rfl, rfl⟩)
        | (at_builtin; refine wpList_appI _ rfl (.tmp 16) (.tmp 22) rfl w.heap.size _ _ _ _ rfl (((ho.alloc _).alloc _).alloc _) _ _ _ _ [later x.2 [long]] rfl (Ints.at1_ _ _ _ _ (by first | omega | (simp; done) | (simp; omega))) (by omega) (by have := hb.size; simp; omega) ?_; intro A2 c2 w2 ho2 hg2 hr2))
      have hbw : Below w.heap.size w w2 := (((hb.alloc hb.size _).alloc (by have := hb.size; simp; omega) _).alloc (by have := hb.size; simp; omega) _).grown hg2 (by have := hb.size; simp; omega) (fun g hg => (Ow.row ho g hg).1)
      rw [← HST.out] at ho2
      clear hg2 hr2
      go_wp2_with fail
      go_roundw
      case rel => exact ⟨k + 1, A2, c2, by omega, by go_num, rfl, ho2, hbw⟩
      case measure => simp [intOf]; omega
    · obtain rfl : k = n := by omega
      have ht : l.take k = l := List.take_of_length_le (by rw [HL.out]; omega)
      rw [ht] at ho
      clear ht
      go_wp2_with (go_at_call 21; refine (First_any _ _ _ _ _ _ ho.ints (by omega)).mono ?_; rintro e w' ⟨rfl, rfl⟩)
      go_ret2
      exact ⟨by rw [← HFP.out]; rfl, hb⟩
set_option maxHeartbeats 1000000 in
theorem rWhen_any (A : Option Addr) (n c : Nat) (l : List Re) (long : Int) (w : World) (hl : Res w w.heap.size A n l) (hn : n ≤ 1000) :
    Calls Try.prog 18 #[.slice A n c, .int .i64 long] w fun e w' => e = .returned (.tuple #[.int .i64 (firstOf (endsOf l long)).2, .bool (decide (0 < n))]) ∧ Below w.heap.size w w' := by
  have HL := Lib.hid hl.1
  have hfp : decide (0 ≤ (firstOf (endsOf l long)).1) = decide (0 < n) := by rw [firstOf_nonneg]; unfold endsOf; rw [List.length_map, HL.out]
  have HFP := Lib.hid hfp
  clear hfp
  go_enter Try.func18, Try.ntmps18
  go_wp2_with fail
  go_loopw [6, 7] (fun s6 s7 wr => ∃ (k : Nat) (A' : Option Addr) (c' : Nat), k ≤ n ∧ s7 = .int .i64 k ∧ s6 = .slice A' k c' ∧ OwI wr w.heap.size 3 A' k c' (endsOf (l.take k) long) ∧ Below w.heap.size w wr) (fun _ s7 _ => n - (intOf s7).toNat)
  case atStart => exact ⟨0, none, 0, Nat.zero_le _, rfl, rfl, OwI.nil_ _ _ _ _, Below.refl _ _⟩
  case round =>
    obtain ⟨k, A1, c1, hk, rfl, rfl, ho, hb⟩ := hrel
    by_cases hlt : k < n
    · obtain ⟨b, off, x, rfl, hbb, hx, hc1, hc2⟩ := Res.cells (hl.below hb) hlt
      have hst := endsOf_snoc long hx.out
      have HST := Lib.hid hst
      clear hst
      go_wp2_with (first
        | (go_at_call 27; refine (rLater_any _ _ _ _ _ [long] _ (Ints.at1_ _ _ long _ (by first | omega | (simp; done) | (simp; omega))) (by omega)).mono ?_; rintro e w' ⟨rfl, rfl⟩)
        | (at_builtin; refine wpList_appI _ rfl (.tmp 16) (.tmp 25) rfl w.heap.size _ _ _ _ rfl ((ho.alloc _).alloc _) _ _ _ _ [later x.2 [long]] rfl (Ints.at1_ _ _ _ _ (by first | omega | (simp; done) | (simp; omega))) (by omega) (by have := hb.size; simp; omega) ?_; intro A2 c2 w2 ho2 hg2 hr2))
      have hbw : Below w.heap.size w w2 := ((hb.alloc hb.size _).alloc (by have := hb.size; simp; omega) _).grown hg2 (by have := hb.size; simp; omega) (fun g hg => (Ow.row ho g hg).1)
      rw [← HST.out] at ho2
      clear hg2 hr2
      go_wp2_with fail
      go_roundw
      case rel => exact ⟨k + 1, A2, c2, by omega, by go_num, rfl, ho2, hbw⟩
      case measure => simp [intOf]; omega
    · obtain rfl : k = n := by omega
      have ht : l.take k = l := List.take_of_length_le (by rw [HL.out]; omega)
      rw [ht] at ho
      clear ht
      go_wp2_with (go_at_call 28; refine (rFirst_any _ _ _ _ _ _ ho.ints (by omega)).mono ?_; rintro e w' ⟨rfl, rfl⟩)
      go_ret2
      exact ⟨by rw [← HFP.out]; rfl, hb⟩

theorem topO_snoc {l : List Re} {k : Nat} {x : Re} (hx : l[k]? = some x) : topO l k = topO l (k + 1) ++ [x.1] := by
  unfold topO
  obtain ⟨h, rfl⟩ := List.getElem?_eq_some_iff.1 hx
  rw [List.drop_eq_getElem_cons h, List.reverse_cons, List.map_append]
  rfl
theorem topO_end (l : List Re) {n : Nat} (h : l.length = n) : topO l n = [] := by unfold topO; rw [List.drop_eq_nil_of_le (by omega)]; rfl
set_option maxRecDepth 100000 in
set_option maxHeartbeats 2000000 in
theorem rTop_any (A : Option Addr) (n c : Nat) (l : List Re) (long now : Int) (As : Option Addr) (ns cs : Nat) (dead : List Int) (w : World) (hl : Res w w.heap.size A n l) (hn : n ≤ 1000) (hnc : n ≤ c) (hs : Ints w w.heap.size As ns dead) (hns : ns ≤ 1000) :
    Calls Try.prog 16 #[.slice A n c, .int .i64 long, .int .i64 now, .slice As ns cs] w fun e w' => ∃ A1 c1 A2 c2, e = .returned (.tuple #[.int .i64 (topS l (topJ l dead long now)), .slice A1 (topJ l dead long now - 1) c1, .slice A2 (n - topJ l dead long now) c2, .bool (decide (0 < topJ l dead long now))]) ∧
      OwRe w' w.heap.size A1 (topJ l dead long now - 1) c1 (l.take (topJ l dead long now - 1)) ∧ OwI w' w.heap.size 3 A2 (n - topJ l dead long now) c2 (topO l (topJ l dead long now)) ∧ Below w.heap.size w w' := by
  have HL := Lib.hid hl.1
  have hn0 : IntKind.i64.wrap ((n : Int) - 1) = (n : Int) - 1 := IntWalk.i64_in _ (by omega)
  go_enter Try.func16, Try.ntmps16
  go_wp2_with fail
  clear hn0
  go_loopw [12, 13] (fun s12 s13 wr => ∃ (m : Nat) (A' : Option Addr) (c' : Nat), m ≤ n ∧ s13 = .int .i64 ((m : Int) - 1) ∧ s12 = .slice A' (n - m) c' ∧ OwI wr w.heap.size 3 A' (n - m) c' (topO l m) ∧ Hid (∀ i x, m ≤ i → l[i]? = some x → spentR dead long now x = true) ∧ Below w.heap.size w wr) (fun _ s13 _ => (intOf s13 + 1).toNat)
  case atStart => exact ⟨n, none, 0, Nat.le_refl _, rfl, by rw [Nat.sub_self], by rw [Nat.sub_self, topO_end l HL.out]; exact OwI.nil_ _ _ _ _, fun i x h1 h2 => (by have := (List.getElem?_eq_some_iff.1 h2).1; have := HL.out; omega), Below.refl _ _⟩
  case round =>
    obtain ⟨m, A1, c1, hm, rfl, rfl, ho, hall, hb⟩ := hrel
    by_cases hlt : 0 < m
    · obtain ⟨b, off, x, rfl, hbb, hx, hc1, hc2⟩ := Res.cells (hl.below hb) (i := m - 1) (by omega)
      have hcall := rSpent_any x long now As ns cs dead wr ((hs.below hb).more hb.size) hns
      have i1 : (1 : Int) ≤ (m : Int) := by omega
      have i2 : (0 : Int) ≤ (m : Int) - 1 := by omega
      have i3 : (m : Int) - 1 < (n : Int) := by omega
      have i4 : (m : Int) - 1 ≤ (c : Int) := by omega
      have i5 : ((m : Int) - 1).toNat = m - 1 := by omega
      have hto := topO_snoc hx.out
      rw [show m - 1 + 1 = m by omega] at hto
      have HTO := Lib.hid hto
      clear hto
      cases hp : spentR dead long now x
      · rw [hp] at hcall
        have hj : topJ l dead long now = m := topJ_of (by rw [HL.out]; omega) hall.out (.inr ⟨x, hx.out, hp⟩)
        have hsock : topS l m = x.1 := by unfold topS; rw [if_pos hlt, List.getD_eq_getElem?_getD, hx.out]; rfl
        have HJ := Lib.hid hj
        have HS := Lib.hid hsock
        clear hp hj hsock
        go_upto_region 7 with (go_at_call 17; refine hcall.mono ?_; rintro e w2 ⟨rfl, hb2⟩)
        replace hb := hb.trans (hb2.mono hb.size)
        obtain ⟨q0, q1⟩ : w2.cell? ⟨b, off + (m - 1) * 2, none⟩ = some (.int .i64 x.1) ∧ w2.cell? ⟨b, off + (m - 1) * 2 + 1, none⟩ = some (.int .i64 x.2) := ⟨(hb2.cell (p := ⟨b, off + (m - 1) * 2, none⟩) (block_lt_of_cell hc1)).trans hc1, (hb2.cell (p := ⟨b, off + (m - 1) * 2 + 1, none⟩) (block_lt_of_cell hc2)).trans hc2⟩
        replace ho := OwI.below ho hb2
        have hrA := ((Recs.take1 encRe_len (hl.below hb) (show m - 1 ≤ n by omega)).more hb.size).drew
        have hnil : OwRe w2.drew w.heap.size none 0 0 [] := OwR.nil_ _ _ _ _
        have hn1 : Hid (0 + (m - 1) ≤ 1000000) := by show _ ≤ _; omega
        have hz : Hid (0 + (m - 1) = m - 1) := Nat.zero_add _
        have lb : b < w2.heap.size := block_lt_of_cell q0
        have hsz : w.heap.size ≤ w2.heap.size := hb.size
        clear hcall hb2 hc1 hc2
        go_region_law ((refine step_appRe (by rfl) (.tmp 36) (.tmp 39) (by rfl) w.heap.size none 0 0 [] (by first | (go_simp; done) | rfl) hnil w2.heap.size (some ⟨b, off, none⟩) (m - 1) c (l.take (m - 1)) (by first | (go_simp; done) | rfl) hrA hn1.out hsz ?_; rw [hz.out]; intro A3 c3 w3 ho3 hg3 hr3; have hb3 : Below w2.heap.size w2 w3 := (Below.refl w2.heap.size w2).drew.grown hg3 (Nat.le_refl _) (by simp [rowOf]); have v0 := (hb3.cell (p := ⟨b, off + (m - 1) * 2, none⟩) lb).trans q0))
        all_goals
          replace ho := OwI.below ho hb3
          replace hb := hb.trans (hb3.mono hb.size)
          rw [List.nil_append] at ho3
          go_wp2_with fail
          exact bodyPost_ret (v := .tuple #[.int .i64 x.1, .slice A3 (m - 1) c3, .slice A1 (n - m) c1, .bool true]) (by simp [results, Try.results16, go_sem]) rfl ⟨A3, c3, A1, c1, by rw [HJ.out, HS.out, decide_eq_true hlt], by rw [HJ.out]; exact ho3, by rw [HJ.out]; exact ho, hb⟩
      · rw [hp] at hcall
        have HP := Lib.hid hp
        clear hp
        go_upto_region 8 with (go_at_call 17; refine hcall.mono ?_; rintro e w2 ⟨rfl, hb2⟩)
        replace hb := hb.trans (hb2.mono hb.size)
        obtain ⟨q0, q1⟩ : w2.cell? ⟨b, off + (m - 1) * 2, none⟩ = some (.int .i64 x.1) ∧ w2.cell? ⟨b, off + (m - 1) * 2 + 1, none⟩ = some (.int .i64 x.2) := ⟨(hb2.cell (p := ⟨b, off + (m - 1) * 2, none⟩) (block_lt_of_cell hc1)).trans hc1, (hb2.cell (p := ⟨b, off + (m - 1) * 2 + 1, none⟩) (block_lt_of_cell hc2)).trans hc2⟩
        replace ho := OwI.below ho hb2
        clear hcall hb2 hc1 hc2
        go_wp2_with (at_builtin; refine wpList_appI _ rfl (.tmp 42) (.tmp 48) rfl w.heap.size _ _ _ _ rfl (ho.alloc _) _ _ _ _ [x.1] rfl (Ints.at1_ _ _ _ _ (by first | omega | (simp; done) | (simp; omega))) (by omega) (by have := hb.size; simp; omega) ?_; intro A3 c3 w3 ho3 hg3 hr3)
        have hbw3 : Below w.heap.size w w3 := (hb.alloc hb.size _).grown hg3 (by have := hb.size; simp; omega) (fun g hg => (Ow.row ho g hg).1)
        rw [← HTO.out] at ho3
        clear hg3 hr3 q0 q1 ho hb
        go_wp2_with fail
        go_roundw
        case rel => exact ⟨m - 1, A3, c3, by omega, by congr 1; omega, by rw [show n - (m - 1) = n - m + 1 by omega], by rw [show n - (m - 1) = n - m + 1 by omega]; exact ho3, fun i y h1 h2 => (by
          rcases Nat.lt_or_ge i m with h3 | h3
          · obtain rfl : i = m - 1 := by omega
            have h4 := hx.out
            rw [h2] at h4
            injection h4 with h4
            rw [h4]
            exact HP.out
          · exact hall.out i y h3 h2), hbw3⟩
        case measure => simp [intOf]; omega
    · have hm0 : m = 0 := by omega
      have hj : topJ l dead long now = m := topJ_of (by rw [HL.out]; exact hm) hall.out (.inl hm0)
      have HM := Lib.hid hm0
      have HJ := Lib.hid hj
      have q1 : decide ((0 : Int) ≤ (m : Int) - 1) = false := by simp; omega
      have q2 : decide ((1 : Int) ≤ (m : Int)) = false := by simp; omega
      clear hj hm0 hlt
      go_wp2_with fail
      exact bodyPost_ret (v := .tuple #[.int .i64 (-1), .slice none 0 0, .slice A1 (n - m) c1, .bool false]) (by simp [results, Try.results16, go_sem]) rfl ⟨none, 0, A1, c1, by rw [HJ.out, HM.out]; rfl, by rw [HJ.out, HM.out]; exact OwR.nil_ _ _ _ _, by rw [HJ.out]; exact ho, hb⟩
end Go.Proofs.Ytfjhommmplencaa
