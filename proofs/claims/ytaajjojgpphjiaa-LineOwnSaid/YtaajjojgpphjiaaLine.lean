/-
  What the functions of package 'line' (layer 4) compute, each as one contract over the translated program. Conditions: a slice argument reads as a list of at most 100000 ints.
-/
import Derived.Test.YtaajjojgpphjiaaSlicesI2
import Derived.Deep.RegionWith
namespace Go.Proofs.Ytaajjojgpphjiaa
open Go.RowKit

theorem Ints.rest {w : World} {B : Nat} {b off n c : Nat} {l : List Int} (h : Ints w B (some ⟨b, off, none⟩) n l) (hn : 0 < n) (hc : n ≤ c) : Ints w B (if c = 1 then some ⟨b, off, none⟩ else some ⟨b, off + 1, none⟩) (n - 1) (l.drop 1) := by
  have hl := h.len
  refine ⟨by simp; omega, fun h0 h1 => ?_⟩
  obtain ⟨b', off', e, hb, hcell⟩ := h.2 (by omega) h1
  injection e with e
  injection e with e1 e2
  subst e1 e2
  rw [if_neg (by omega)]
  refine ⟨b, off + 1, rfl, hb, fun j u hu => ?_⟩
  have := hcell (1 + j) u (by
    rw [List.getElem?_map, List.getElem?_drop] at hu
    rw [List.getElem?_map]; exact hu)
  rw [Nat.add_assoc]
  exact this
theorem Ints.take1 {w : World} {B : Nat} {A : Option Addr} {n c : Nat} {l : List Int} (h : Ints w B A n l) (hc : c ≤ n) : Ints w B A c (l.take c) := by
  refine ⟨by rw [List.length_map, List.length_take, h.len]; omega, fun h0 hk0 => ?_⟩
  obtain ⟨b, off, e, hb, hcell⟩ := h.2 (by omega) hk0
  refine ⟨b, off, e, hb, fun j u hu => hcell j u ?_⟩
  rw [List.getElem?_map] at hu ⊢
  rw [List.getElem?_take] at hu
  split at hu
  · exact hu
  · cases hu

theorem Push_any (A1 A2 : Option Addr) (n1 n2 c1 c2 : Nat) (l m : List Int) (w : World) (hl : Ints w w.heap.size A1 n1 l) (hm : Ints w w.heap.size A2 n2 m) (h1 : n1 ≤ 100000) (h2 : n2 ≤ 100000) (hc1 : n1 ≤ c1) :
    Calls Try.prog 19 #[.slice A1 n1 c1, .slice A2 n2 c2] w fun e w' => ∃ A' c', e = .returned (.slice A' (n1 + n2) c') ∧ OwI w' w.heap.size 3 A' (n1 + n2) c' (l ++ m) ∧ Below w.heap.size w w' := by
  go_enter Try.func19, Try.ntmps19
  go_wp2_with fail
  refine (CloneI_any _ _ _ _ l _ hl h1).mono ?_
  rintro e w1 ⟨A3, c3, rfl, ho, hb⟩
  go_wp2_with (at_builtin; refine wpList_appI _ rfl (.tmp 11) (.tmp 12) rfl w.heap.size _ _ _ l rfl ho w.heap.size _ _ _ m rfl (hm.below hb) (by omega) hb.size ?_; intro A4 c4 w4 ho4 hg4 hr4)
  go_ret
  exact ⟨A4, c4, rfl, ho4, hb.grown hg4 hb.size (fun g hg => (Ow.row ho g hg).1)⟩
theorem Place_any (A : Option Addr) (n c : Nat) (l : List Int) (x : Int) (w : World) (hl : Ints w w.heap.size A n l) (hn : n ≤ 100000) :
    Calls Try.prog 10 #[.slice A n c, .int .i64 x] w fun e w' => e = .returned (.int .i64 (placeOf l x)) ∧ w = w' := by
  go_enter Try.func10, Try.ntmps10
  go_wp2_with (go_at_call 24; refine (IndexI_any _ _ _ _ l _ _ hl hn).mono ?_; rintro e w' ⟨rfl, rfl⟩)
  go_ret
  exact ⟨rfl, rfl⟩
theorem Same_any (A1 A2 : Option Addr) (n1 n2 c1 c2 : Nat) (a b : List Int) (w : World) (ha : Ints w w.heap.size A1 n1 a) (hb : Ints w w.heap.size A2 n2 b) (hn1 : n1 ≤ 100000) (hn2 : n2 ≤ 100000) :
    Calls Try.prog 12 #[.slice A1 n1 c1, .slice A2 n2 c2] w fun e w' => e = .returned (.bool (sameL a b)) ∧ Below w.heap.size w w' := by
  go_enter Try.func12, Try.ntmps12
  go_wp2_with (go_at_call 27; refine (EqualI_any _ _ _ _ _ _ _ _ a b _ ha hb hn1 hn2).mono ?_; rintro e w' ⟨rfl, hb1⟩)
  go_ret
  exact ⟨rfl, hb1⟩
theorem Turned_any (A : Option Addr) (n c : Nat) (l : List Int) (w : World) (hl : Ints w w.heap.size A n l) (hn : n ≤ 100000) :
    Calls Try.prog 22 #[.slice A n c] w fun e w' => ∃ A' c', e = .returned (.slice A' n c') ∧ OwI w' w.heap.size 3 A' n c' l.reverse ∧ Below w.heap.size w w' := by
  go_enter Try.func22, Try.ntmps22
  go_wp2_with fail
  refine (CloneI_any _ _ _ _ l _ hl hn).mono ?_
  rintro e w1 ⟨A3, c3, rfl, ho, hb⟩
  go_wp2_with fail
  refine (ReverseI_any w.heap.size _ _ _ l _ ho hn).mono ?_
  rintro e w2 ⟨rfl, ho2, hg2⟩
  go_wp2_with fail
  go_ret
  exact ⟨A3, c3, rfl, ho2, hb.grown hg2 hb.size (fun g hg => (Ow.row ho g hg).1)⟩
set_option maxHeartbeats 800000 in
theorem Front_any (A : Option Addr) (n c : Nat) (l : List Int) (w : World) (hl : Ints w w.heap.size A n l) (hn : n ≤ 100000) (hnc : n ≤ c) :
    Calls Try.prog 13 #[.slice A n c] w fun e w' => ∃ A' c', e = .returned (.tuple #[.int .i64 (l.headD 0), .slice A' (n - 1) c', .bool (decide (0 < n))]) ∧ OwI w' w.heap.size 3 A' (n - 1) c' (l.drop 1) ∧ Below w.heap.size w w' := by
  rcases Nat.eq_zero_or_pos n with h0 | h0
  · have hb0 : ((n : Int) == 0) = true := by simp; omega
    have hl0 : l = [] := List.eq_nil_of_length_eq_zero (by rw [hl.len]; exact h0)
    subst hl0 h0
    go_enter Try.func13, Try.ntmps13
    go_wp2
    go_ret3
    exact ⟨none, 0, rfl, OwI.nil_ _ _ _ _, Below.refl _ _⟩
  · obtain ⟨b, off, x, rfl, hbb, hx, hc⟩ := hl.at_ h0
    replace hc : w.cell? ⟨b, off, none⟩ = some (.int .i64 x) := hc
    have hb0 : ((n : Int) == 0) = false := by simp; omega
    have hh : l.headD 0 = x := by have := hx.out; cases l <;> simp_all
    have hd : decide (0 < n) = true := by simpa using h0
    have HH := Lib.hid hh
    have HD := Lib.hid hd
    clear hh hd
    have hr := hl.rest h0 hnc
    have i1 : (1 : Int) ≤ (n : Int) := by omega
    have hn1 : Hid (n - 1 ≤ 100000) := Nat.le_trans (Nat.sub_le n 1) hn
    by_cases hc1 : c = 1
    · rw [if_pos hc1] at hr
      subst hc1
      obtain rfl : n = 1 := by omega
      go_enter Try.func13, Try.ntmps13
      go_wp2_with fail
      go_region_with (go_at_call 25; refine (CloneI_any _ _ _ w.heap.size (l.drop 1) _ hr.drew hn1.out).mono ?_; rintro e w1 ⟨A3, c3, rfl, ho, hb⟩; have hc1 : w1.cell? ⟨b, off, none⟩ = some (.int .i64 x) := (hb.cell (p := ⟨b, off, none⟩) hbb).trans hc)
      all_goals
        go_wp2_with fail
        go_ret3
        exact ⟨A3, c3, by rw [HH.out]; rfl, ho, Below.trans (Below.refl w.heap.size w).drew hb⟩
    · rw [if_neg hc1] at hr
      go_enter Try.func13, Try.ntmps13
      go_wp2_with fail
      go_region_with (go_at_call 25; refine (CloneI_any _ _ _ w.heap.size (l.drop 1) _ hr.drew hn1.out).mono ?_; rintro e w1 ⟨A3, c3, rfl, ho, hb⟩; have hc1 : w1.cell? ⟨b, off, none⟩ = some (.int .i64 x) := (hb.cell (p := ⟨b, off, none⟩) hbb).trans hc)
      all_goals
        go_wp2_with fail
        go_ret3
        exact ⟨A3, c3, by rw [HH.out, HD.out]; rfl, ho, Below.trans (Below.refl w.heap.size w).drew hb⟩
set_option maxHeartbeats 800000 in
theorem Back_any (A : Option Addr) (n c : Nat) (l : List Int) (w : World) (hl : Ints w w.heap.size A n l) (hn : n ≤ 100000) (hnc : n ≤ c) :
    Calls Try.prog 15 #[.slice A n c] w fun e w' => ∃ A' c', e = .returned (.tuple #[.int .i64 (l.getD (n - 1) 0), .slice A' (n - 1) c', .bool (decide (0 < n))]) ∧ OwI w' w.heap.size 3 A' (n - 1) c' (l.take (n - 1)) ∧ Below w.heap.size w w' := by
  rcases Nat.eq_zero_or_pos n with h0 | h0
  · have hb0 : ((n : Int) == 0) = true := by simp; omega
    have hl0 : l = [] := List.eq_nil_of_length_eq_zero (by rw [hl.len]; exact h0)
    subst hl0 h0
    go_enter Try.func15, Try.ntmps15
    go_wp2
    go_ret3
    exact ⟨none, 0, rfl, OwI.nil_ _ _ _ _, Below.refl _ _⟩
  · have hr := hl.take1 (Nat.sub_le n 1)
    obtain ⟨b, off, x, rfl, hbb, hx, hc⟩ := hl.at_ (show n - 1 < n by omega)
    have hb0 : ((n : Int) == 0) = false := by simp; omega
    have hh : l.getD (n - 1) 0 = x := by rw [List.getD_eq_getElem?_getD, hx.out]; rfl
    have hd : decide (0 < n) = true := by simpa using h0
    have HH := Lib.hid hh
    have HD := Lib.hid hd
    clear hh hd
    have i1 : (1 : Int) ≤ (n : Int) := by omega
    have i2 : (0 : Int) ≤ (n : Int) - 1 := by omega
    have i3 : (n : Int) - 1 < (n : Int) := by omega
    have i4 : (n : Int) - 1 ≤ (c : Int) := by omega
    have i5 : ((n : Int) - 1).toNat = n - 1 := by omega
    have i6 : IntKind.i64.wrap ((n : Int) - 1) = (n : Int) - 1 := IntWalk.i64_in _ (by omega)
    have hn1 : Hid (n - 1 ≤ 100000) := Nat.le_trans (Nat.sub_le n 1) hn
    go_enter Try.func15, Try.ntmps15
    go_wp2_with fail
    go_region_with (go_at_call 25; refine (CloneI_any _ _ _ w.heap.size (l.take (n - 1)) _ hr.drew hn1.out).mono ?_; rintro e w1 ⟨A3, c3, rfl, ho, hb⟩; have hc1 : w1.cell? ⟨b, off + (n - 1), none⟩ = some (.int .i64 x) := (hb.cell (p := ⟨b, off + (n - 1), none⟩) hbb).trans hc)
    all_goals
      go_wp2_with fail
      go_ret3
      exact ⟨A3, c3, by rw [HH.out, HD.out]; rfl, ho, Below.trans (Below.refl w.heap.size w).drew hb⟩

def dropRun (l ms : List Int) : List Int × Nat := ms.foldl (fun s x => if x ∈ s.1 then (s.1.erase x, s.2 + 1) else s) (l, 0)
theorem dropRun_snoc (l ms : List Int) (x : Int) : dropRun l (ms ++ [x]) = if x ∈ (dropRun l ms).1 then ((dropRun l ms).1.erase x, (dropRun l ms).2 + 1) else dropRun l ms := by
  unfold dropRun
  rw [List.foldl_append]
  rfl
theorem first_of_mem : ∀ {l : List Int} {x : Int}, x ∈ l → ∃ k : Nat, l[k]? = some x ∧ x ∉ l.take k ∧ l.eraseIdx k = l.erase x
  | [], _, h => absurd h (by simp)
  | y :: ys, x, h => by
    by_cases e : y = x
    · subst e
      exact ⟨0, rfl, by simp, by simp⟩
    · obtain ⟨k, h1, h2, h3⟩ := first_of_mem (l := ys) (x := x) (by
        rcases List.mem_cons.1 h with h | h
        · exact absurd h.symm e
        · exact h)
      refine ⟨k + 1, by simpa using h1, ?_, ?_⟩
      · simp only [List.take_succ_cons, List.mem_cons, not_or]
        exact ⟨fun h => e h.symm, h2⟩
      · rw [List.eraseIdx_cons_succ, h3, List.erase_cons_tail (by simpa using e)]
theorem placeOf_mem {l : List Int} {x : Int} (h : x ∈ l) : ∃ k : Nat, placeOf l x = k ∧ k < l.length ∧ l.eraseIdx k = l.erase x ∧ l[k]? = some x ∧ x ∉ l.take k := by
  obtain ⟨k, h1, h2, h3⟩ := first_of_mem h
  exact ⟨k, placeOf_hit h1 h2, (List.getElem?_eq_some_iff.1 h1).1, h3, h1, h2⟩

def DropInv (w : World) (l m : List Int) (n : Nat) (s4 s5 s13 : Value) (wr : World) : Prop :=
  ∃ (k : Nat) (r : List Int) (g : Nat) (A' : Option Addr) (c' : Nat), k ≤ n ∧ r.length ≤ l.length ∧ g ≤ k ∧ s13 = .int .i64 k ∧ s4 = .slice A' r.length c' ∧ s5 = .int .i64 g ∧ OwI wr w.heap.size 3 A' r.length c' r ∧ Below w.heap.size w wr ∧ dropRun l (m.take k) = (r, g)

set_option maxHeartbeats 1000000 in
theorem Drop_any (A1 A2 : Option Addr) (n1 n2 c1 c2 : Nat) (l m : List Int) (w : World) (hl : Ints w w.heap.size A1 n1 l) (hm : Ints w w.heap.size A2 n2 m) (h1 : n1 ≤ 100000) (h2 : n2 ≤ 100000) :
    Calls Try.prog 11 #[.slice A1 n1 c1, .slice A2 n2 c2] w fun e w' => ∃ A' c', e = .returned (.tuple #[.slice A' (dropRun l m).1.length c', .int .i64 (dropRun l m).2]) ∧ OwI w' w.heap.size 3 A' (dropRun l m).1.length c' (dropRun l m).1 ∧ Below w.heap.size w w' := by
  have HL := Lib.hid hl.len
  have HM := Lib.hid hm.len
  go_enter Try.func11, Try.ntmps11
  go_wp2_with fail
  go_step3
  go_wp2_with fail
  refine (CloneI_any _ _ _ _ l _ hl h1).mono ?_
  rintro e w1 ⟨A3, c3, rfl, ho, hb⟩
  go_wp2_with fail
  go_step3
  go_wp2_with fail
  go_loopw [4, 5, 13] (fun s4 s5 s13 wr => DropInv w l m n2 s4 s5 s13 wr) (fun _ _ s13 _ => n2 - (intOf s13).toNat)
  case atStart => exact ⟨0, l, 0, A3, c3, Nat.zero_le _, Nat.le_refl _, Nat.le_refl _, rfl, by rw [HL.out], rfl, by rw [HL.out]; exact ho, hb, rfl⟩
  case round =>
    clear ho hb
    obtain ⟨k, r, g, A4, c4, hk, hrl, hgk, rfl, rfl, rfl, ho, hb, hrun⟩ := hrel
    have HR := Lib.hid hrun
    have hr5 : r.length ≤ 100000 := by have := HL.out; omega
    clear hrun
    by_cases hlt : k < n2
    · obtain ⟨b, off, x, rfl, hbb, hx, hc⟩ := (hm.below hb).at_ hlt
      by_cases hmem : x ∈ r
      · obtain ⟨q, hq, hql, hqe, _, _⟩ := placeOf_mem hmem
        have hrun2 : Hid (dropRun l (m.take (k + 1)) = (r.erase x, g + 1)) := by
          show _ = _
          rw [take_succ_of hx.out, dropRun_snoc, HR.out, if_pos hmem]
        have hqn : ¬ (q : Int) < 0 := by omega
        have hqd : decide ((q : Int) < 0) = false := by simp
        have HQE := Lib.hid hqe
        clear hqe
        go_wp2_with fail
        refine (Place_any _ _ _ r _ _ ho.ints hr5).mono ?_
        rintro e w' ⟨rfl, rfl⟩
        rw [hq]
        have HQ := Lib.hid hq
        clear hq
        go_wp2_with fail
        refine (DeleteI_any w.heap.size _ _ _ q r _ ho hql hr5).mono ?_
        rintro e w2 ⟨rfl, ho2, hg2⟩
        go_wp2_with fail
        go_roundw
        case rel =>
          refine ⟨k + 1, r.erase x, g + 1, A4, c4, by omega, ?_, by omega, by go_num, ?_, by go_num, ?_, hb.grown hg2 hb.size (fun z hz => (Ow.row ho z hz).1), hrun2.out⟩
          · rw [List.length_erase_of_mem hmem]; omega
          · rw [List.length_erase_of_mem hmem]
          · rw [List.length_erase_of_mem hmem, ← HQE.out]; exact ho2
        case measure => simp [intOf]; omega
      · have hq := placeOf_miss hmem
        have hrun2 : Hid (dropRun l (m.take (k + 1)) = (r, g)) := by
          show _ = _
          rw [take_succ_of hx.out, dropRun_snoc, HR.out, if_neg hmem]
        have HMM := Lib.hid hmem
        clear hmem
        go_wp2_with fail
        refine (Place_any _ _ _ r _ _ ho.ints hr5).mono ?_
        rintro e w' ⟨rfl, rfl⟩
        rw [hq]
        clear hq
        go_wp2_with fail
        go_roundw
        case rel => exact ⟨k + 1, r, g, A4, c4, by omega, hrl, by omega, by go_num, rfl, rfl, ho, hb, hrun2.out⟩
        case measure => simp [intOf]; omega
    · have hfin : dropRun l m = (r, g) := by
        have := HR.out
        rwa [List.take_of_length_le (by rw [HM.out]; omega)] at this
      have HF := Lib.hid hfin
      clear hfin
      go_wp2_with fail
      rw [Exit.noGoto_ret]
      go_ret2
      exact ⟨A4, c4, by rw [HF.out]; rfl, by rw [HF.out]; exact ho, hb⟩
end Go.Proofs.Ytaajjojgpphjiaa
