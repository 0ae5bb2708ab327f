/-
  The walk of the statement PaceBegins: it returns true and writes nothing that was there. Conditions: the history reads as a list of records whose numbers are int64.
-/
import Derived.Test.YtcmgcbkhjdeinaaPaceLaws
import Derived.Test.YtcmgcbkhjdeinaaPaceEnd
import Derived.Test.YtcmgcbkhjdeinaaPacePlansWalk
import Derived.Test.YtcmgcbkhjdeinaaOpenPc
import Derived.RegionTactic
import Derived.Deep.RegionWith
namespace Go.Proofs.Ytcmgcbkhjdeinaa
open Go.RowKit

theorem Recs.take {α : Type} {enc : α → List Value} {k : Nat} (hk : ∀ x, (enc x).length = k) {w : World} {B : Nat} {A : Option Addr} {n c : Nat} {xs : List α} (h : Recs enc k w B A n xs) (hc : c ≤ n) : Recs enc k w B A c (xs.take c) := by
  refine ⟨by rw [List.length_take, h.1]; omega, by rw [flatMap_len hk, List.length_take, h.1, Nat.min_eq_left hc], fun h0 hk0 => ?_⟩
  obtain ⟨b, off, e, hb, hcell⟩ := h.2.2 (by omega) hk0
  refine ⟨b, off, e, hb, fun j u hu => hcell j u ?_⟩
  have hs : xs.flatMap enc = (xs.take c).flatMap enc ++ (xs.drop c).flatMap enc := by rw [← List.flatMap_append, List.take_append_drop]
  rw [hs, List.getElem?_append_left (List.getElem?_eq_some_iff.1 hu).1]
  exact hu
theorem Ints.take {w : World} {B : Nat} {A : Option Addr} {n c : Nat} {l : List Int} (h : Ints w B A n l) (hc : c ≤ n) : Ints w B A c (l.take c) := by
  refine ⟨by rw [List.length_map, List.length_take, h.len]; omega, fun h0 hk0 => ?_⟩
  obtain ⟨b, off, e, hb, hcell⟩ := h.2 (by omega) hk0
  refine ⟨b, off, e, hb, fun j u hu => hcell j u ?_⟩
  rw [List.getElem?_map] at hu ⊢
  rw [List.getElem?_take] at hu
  split at hu
  · exact hu
  · cases hu

def BeginsInv (w : World) (l : List Pc) (more : Int) (n : Nat) (s12 s13 : Value) (wr : World) : Prop :=
  ∃ (k : Nat) (r : List Pc) (A' : Option Addr) (c' : Nat), k ≤ n ∧ r = (l.take k).map (shiftPc more) ∧ r.length = k ∧ s13 = .int .i64 k ∧ s12 = .slice A' k c' ∧ OwP wr w.heap.size A' k c' r ∧ Below w.heap.size w wr ∧ ∀ x ∈ l.take k, 0 ≤ x.at_ ∧ x.at_ ≤ 1048576

set_option maxRecDepth 100000 in
set_option maxHeartbeats 4000000 in
theorem PaceBegins_in (A : Option Addr) (n c : Nat) (l : List Pc) (stagger cut more : Int) (w : World) (hl : Pcs w w.heap.size A n l) (hok : ∀ x ∈ l, (Lit.int .i64 x.n).wf = true) (hn : n ≤ 100) (hnc : n ≤ c)
    (h1 : 0 ≤ more) (h2 : more ≤ 1000) (h3 : 0 ≤ stagger) (h4 : stagger ≤ 1048576) :
    Calls Try.prog 5 #[.slice A n c, .int .i64 stagger, .int .i64 cut, .int .i64 more] w fun e w' => e = .returned (.bool true) ∧ Below w.heap.size w w' := by
  have d1 : decide (100 < n) = false := by simp; omega
  have d2 : decide (more < 0) = false := by simp; omega
  have d3 : decide (1000 < more) = false := by simp; omega
  have d4 : decide (stagger < 0) = false := by simp; omega
  have d5 : decide (1048576 < stagger) = false := by simp; omega
  have HL := Lib.hid hl.len
  have HOK := Lib.hid hok
  clear hok
  go_enter Try.func5, Try.ntmps5
  go_upto_region 3 with (go_at_call 11; refine (rGreat14_any _ _ _ _ (by omega)).mono ?_; rintro e w' ⟨rfl, rfl⟩)
  go_cut [2] (fun s2 wx => ∃ q : Nat, q ≤ n ∧ s2 = .int .i64 q ∧ w = wx)
  case first =>
    have t1 : -(n : Int) ≤ cut.tmod ((n : Int) + 1) := by
      have := Int.lt_tmod_of_pos cut (show (0 : Int) < (n : Int) + 1 by omega); omega
    have t2 : cut.tmod ((n : Int) + 1) ≤ (n : Int) := by
      have := Int.tmod_lt_of_pos cut (show (0 : Int) < (n : Int) + 1 by omega); omega
    go_wp2_with fail
    go_meet
    case rel =>
      refine ⟨((cut.tmod ((n : Int) + 1) + (n : Int) + 1) % ((n : Int) + 1)).toNat, ?_, ?_, rfl⟩
      · have := Int.emod_lt_of_pos (cut.tmod ((n : Int) + 1) + (n : Int) + 1) (show (0 : Int) < (n : Int) + 1 by omega)
        have := Int.emod_nonneg (cut.tmod ((n : Int) + 1) + (n : Int) + 1) (show (n : Int) + 1 ≠ 0 by omega)
        omega
      · rw [Int.toNat_of_nonneg (Int.emod_nonneg _ (by omega))]
  case rest =>
    obtain ⟨q, hq, rfl, rfl⟩ := hcut
    have hlq := Recs.take encPc_len hl hq
    have hokq : Hid (∀ x ∈ l.take q, (Lit.int .i64 x.n).wf = true) := fun x hx => HOK.out x (List.mem_of_mem_take hx)
    have hqc : q ≤ c := by omega
    cases hk : keeps stagger l
    · go_wp2_with fail
      refine (Keeps_any stagger _ _ _ _ l _ hl (Nat.le_refl _) (by omega) HOK.out).mono ?_
      rintro e w1 ⟨rfl, hb1⟩
      go_upto_region 7 with fail
      go_cut [10, 11] (fun s10 s11 wx => ∃ A1 c1 A2 c2, s10 = .slice A1 (starts l).length c1 ∧ s11 = .slice A2 (starts (l.take q)).length c2 ∧ Ints wx wx.heap.size A1 (starts l).length (starts l) ∧ Ints wx wx.heap.size A2 (starts (l.take q)).length (starts (l.take q)) ∧ (starts l).length ≤ c1 ∧ Below w.heap.size w wx)
      case first =>
        have hw1 : Below w.heap.size w w1.drew := hb1.drew
        have HN : Hid (n ≤ 100000) := show n ≤ 100000 by omega
        have HQ : Hid (q ≤ 100000) := show q ≤ 100000 by omega
        go_region_with (first
          | (go_at_call_of 10 n; refine (Starts_any _ _ _ w.heap.size l _ (hl.below hw1) hw1.size HN.out).mono ?_; rintro e w2 ⟨A1, c1, rfl, ho1, hb2⟩; have hw2 : Below w.heap.size w w2 := hw1.trans (hb2.mono hw1.size))
          | (go_at_call_of 10 q; refine (Starts_any _ _ _ w.heap.size (l.take q) _ (hlq.below hw2) hw2.size HQ.out).mono ?_; rintro e w3 ⟨A2, c2, rfl, ho2, hb3⟩))
        all_goals
          go_wp2_with fail
          go_meet
          case rel => exact ⟨A1, c1, A2, c2, rfl, rfl, (ho1.below hb3).ints, ho2.ints, ho1.2.1, hw2.trans (hb3.mono hw2.size)⟩
      case rest =>
        clear hb1 w1
        obtain ⟨A1, c1, A2, c2, rfl, rfl, hi1, hi2, hc1, hb1⟩ := hcut
        have hle := starts_take_le l q
        have hle100 : (starts l).length ≤ 100 := Nat.le_trans (starts_len_le l) (by rw [HL.out]; exact hn)
        have hst := starts_take l q
        have hi3 := hi1.take hle
        rw [← hst] at hi3
        have hsame : sameB (starts (l.take q)) (starts (l.take q)) = true := by simp [sameB]
        have hlc : (starts (l.take q)).length ≤ c1 := by omega
        have hd6 : decide ((starts l).length < (starts (l.take q)).length) = false := by simp; omega
        clear hst
        generalize hM1 : (starts l).length = M1 at *
        generalize hM2 : (starts (l.take q)).length = M2 at *
        generalize hS2 : starts (l.take q) = S2 at *
        have HM1 := Lib.hid hM1
        have HM2 := Lib.hid hM2
        have HS2 := Lib.hid hS2
        clear hM1 hM2 hS2 hi1
        go_wp2_with fail
        refine (rSame4_any _ _ _ _ _ _ _ _ S2 S2 _ hi3 hi2 (by omega) (by omega)).mono ?_
        rintro e w4 ⟨rfl, hb4⟩
        have hw4 := hb1.trans (hb4.mono hb1.size)
        have hl4 := hl.below hw4
        clear hi2 hi3 hb4 hb1 hlq
        go_wp2_with fail
        go_loopw [12, 13] (fun s12 s13 wr => BeginsInv w l more n s12 s13 wr) (fun _ s13 _ => n - (intOf s13).toNat)
        case atStart => exact ⟨0, [], none, 0, Nat.zero_le _, rfl, rfl, rfl, rfl, OwR.nil_ _ _ _ _, hw4, by simp⟩
        case round =>
          obtain ⟨k, r, A3, c3, hk2, hr, hrl, rfl, rfl, ho, hb, hall⟩ := hrel
          have HR := Lib.hid hr
          have HRL := Lib.hid hrl
          have HALL := Lib.hid hall
          clear hr hrl hall
          by_cases hlt : k < n
          · obtain ⟨b, off, x, rfl, hbb, hx, hx0, hx1, hx2⟩ := Pcs.cells (hl.below hb) hlt
            by_cases g1 : x.at_ < 0
            · have gd1 : decide (x.at_ < 0) = true := by simpa using g1
              go_wp2_with (go_at_call 7; refine (wakes14_any _).mono ?_; rintro e w' ⟨rfl, hbk⟩)
              go_ret
              exact ⟨rfl, hb.trans (hbk.mono hb.size)⟩
            · have gd1 : decide (x.at_ < 0) = false := by simpa using g1
              by_cases g2 : 1048576 < x.at_
              · have gd2 : decide (1048576 < x.at_) = true := by simpa using g2
                go_wp2_with (go_at_call 7; refine (wakes14_any _).mono ?_; rintro e w' ⟨rfl, hbk⟩)
                go_ret
                exact ⟨rfl, hb.trans (hbk.mono hb.size)⟩
              · have gd2 : decide (1048576 < x.at_) = false := by simpa using g2
                go_wp2_with (at_builtin; refine wpList_appP _ rfl (.tmp 109) (.tmp 111) rfl w.heap.size _ _ _ _ rfl ((ho.alloc _).alloc _) _ _ _ _ _ rfl (Pcs.new1 _ _ (by simp) ⟨x.fail, x.n, x.at_ + more⟩ _) (by omega) (by have := hb.size; simp; omega) ?_; intro A5 c5 w5 ho5 hg5 hr5)
                go_roundw
                case rel =>
                  refine ⟨k + 1, r ++ [shiftPc more x], A5, c5, by omega, ?_, by simp [HRL.out], by go_num, rfl, ho5, ((hb.alloc hb.size _).alloc (by have := hb.size; simp; omega) _).grown hg5 (by have := hb.size; simp; omega) (fun z hz => (ho.2.row z hz).1), ?_⟩
                  · rw [take_succ_of hx.out, List.map_append, HR.out]; rfl
                  · intro y hy
                    rw [take_succ_of hx.out] at hy
                    rcases List.mem_append.1 hy with hy | hy
                    · exact HALL.out y hy
                    · simp at hy; subst hy; omega
                case measure => simp [intOf]; omega
          · obtain rfl : k = n := by omega
            have hfull : l.take k = l := List.take_of_length_le (by rw [HL.out]; omega)
            have hkr : keeps stagger r = false := by rw [HR.out, hfull, keeps_shift stagger more h1 h2 h3 h4 l (by rw [← hfull]; exact HALL.out), hk]
            have hokr : Hid (∀ x ∈ r, (Lit.int .i64 x.n).wf = true) := by
              show ∀ x ∈ r, (Lit.int .i64 x.n).wf = true
              rw [HR.out, hfull]
              intro x hx
              obtain ⟨y, hy, rfl⟩ := List.mem_map.1 hx
              exact HOK.out y hy
            have HF := Lib.hid hfull
            clear hfull
            go_wp2_with fail
            refine (Keeps_any stagger _ _ _ _ r _ ho.recs (Nat.le_refl _) (by omega) hokr.out).mono ?_
            rintro e w6 ⟨rfl, hb6⟩
            go_wp2_with fail
            refine (wakes14_any _).mono ?_
            rintro e w7 ⟨rfl, hb7⟩
            go_wp2_with fail
            go_ret
            exact ⟨rfl, (hb.trans (hb6.mono hb.size)).trans (hb7.mono (Nat.le_trans hb.size hb6.size))⟩
    · have hkq : keeps stagger (l.take q) = true := keeps_take stagger l q hk
      go_wp2_with fail
      refine (Keeps_any stagger _ _ _ _ l _ hl (Nat.le_refl _) (by omega) HOK.out).mono ?_
      rintro e w0 ⟨rfl, hb0⟩
      go_wp2_with fail
      refine (Keeps_any stagger _ _ _ _ (l.take q) _ (hlq.below hb0) hb0.size (by omega) hokq.out).mono ?_
      rintro e w1 ⟨rfl, hb10⟩
      have hb1 : Below w.heap.size w w1 := hb0.trans (hb10.mono hb0.size)
      clear hb0 hb10 w0
      go_upto_region 7 with fail
      go_cut [10, 11] (fun s10 s11 wx => ∃ A1 c1 A2 c2, s10 = .slice A1 (starts l).length c1 ∧ s11 = .slice A2 (starts (l.take q)).length c2 ∧ Ints wx wx.heap.size A1 (starts l).length (starts l) ∧ Ints wx wx.heap.size A2 (starts (l.take q)).length (starts (l.take q)) ∧ (starts l).length ≤ c1 ∧ Below w.heap.size w wx)
      case first =>
        have hw1 : Below w.heap.size w w1.drew := hb1.drew
        have HN : Hid (n ≤ 100000) := show n ≤ 100000 by omega
        have HQ : Hid (q ≤ 100000) := show q ≤ 100000 by omega
        go_region_with (first
          | (go_at_call_of 10 n; refine (Starts_any _ _ _ w.heap.size l _ (hl.below hw1) hw1.size HN.out).mono ?_; rintro e w2 ⟨A1, c1, rfl, ho1, hb2⟩; have hw2 : Below w.heap.size w w2 := hw1.trans (hb2.mono hw1.size))
          | (go_at_call_of 10 q; refine (Starts_any _ _ _ w.heap.size (l.take q) _ (hlq.below hw2) hw2.size HQ.out).mono ?_; rintro e w3 ⟨A2, c2, rfl, ho2, hb3⟩))
        all_goals
          go_wp2_with fail
          go_meet
          case rel => exact ⟨A1, c1, A2, c2, rfl, rfl, (ho1.below hb3).ints, ho2.ints, ho1.2.1, hw2.trans (hb3.mono hw2.size)⟩
      case rest =>
        clear hb1 w1
        obtain ⟨A1, c1, A2, c2, rfl, rfl, hi1, hi2, hc1, hb1⟩ := hcut
        have hle := starts_take_le l q
        have hle100 : (starts l).length ≤ 100 := Nat.le_trans (starts_len_le l) (by rw [HL.out]; exact hn)
        have hst := starts_take l q
        have hi3 := hi1.take hle
        rw [← hst] at hi3
        have hsame : sameB (starts (l.take q)) (starts (l.take q)) = true := by simp [sameB]
        have hlc : (starts (l.take q)).length ≤ c1 := by omega
        have hd6 : decide ((starts l).length < (starts (l.take q)).length) = false := by simp; omega
        clear hst
        generalize hM1 : (starts l).length = M1 at *
        generalize hM2 : (starts (l.take q)).length = M2 at *
        generalize hS2 : starts (l.take q) = S2 at *
        have HM1 := Lib.hid hM1
        have HM2 := Lib.hid hM2
        have HS2 := Lib.hid hS2
        clear hM1 hM2 hS2 hi1
        go_wp2_with fail
        refine (rSame4_any _ _ _ _ _ _ _ _ S2 S2 _ hi3 hi2 (by omega) (by omega)).mono ?_
        rintro e w4 ⟨rfl, hb4⟩
        have hw4 := hb1.trans (hb4.mono hb1.size)
        have hl4 := hl.below hw4
        clear hi2 hi3 hb4 hb1 hlq
        go_wp2_with fail
        go_loopw [12, 13] (fun s12 s13 wr => BeginsInv w l more n s12 s13 wr) (fun _ s13 _ => n - (intOf s13).toNat)
        case atStart => exact ⟨0, [], none, 0, Nat.zero_le _, rfl, rfl, rfl, rfl, OwR.nil_ _ _ _ _, hw4, by simp⟩
        case round =>
          obtain ⟨k, r, A3, c3, hk2, hr, hrl, rfl, rfl, ho, hb, hall⟩ := hrel
          have HR := Lib.hid hr
          have HRL := Lib.hid hrl
          have HALL := Lib.hid hall
          clear hr hrl hall
          by_cases hlt : k < n
          · obtain ⟨b, off, x, rfl, hbb, hx, hx0, hx1, hx2⟩ := Pcs.cells (hl.below hb) hlt
            by_cases g1 : x.at_ < 0
            · have gd1 : decide (x.at_ < 0) = true := by simpa using g1
              go_wp2_with (go_at_call 7; refine (wakes14_any _).mono ?_; rintro e w' ⟨rfl, hbk⟩)
              go_ret
              exact ⟨rfl, hb.trans (hbk.mono hb.size)⟩
            · have gd1 : decide (x.at_ < 0) = false := by simpa using g1
              by_cases g2 : 1048576 < x.at_
              · have gd2 : decide (1048576 < x.at_) = true := by simpa using g2
                go_wp2_with (go_at_call 7; refine (wakes14_any _).mono ?_; rintro e w' ⟨rfl, hbk⟩)
                go_ret
                exact ⟨rfl, hb.trans (hbk.mono hb.size)⟩
              · have gd2 : decide (1048576 < x.at_) = false := by simpa using g2
                go_wp2_with (at_builtin; refine wpList_appP _ rfl (.tmp 109) (.tmp 111) rfl w.heap.size _ _ _ _ rfl ((ho.alloc _).alloc _) _ _ _ _ _ rfl (Pcs.new1 _ _ (by simp) ⟨x.fail, x.n, x.at_ + more⟩ _) (by omega) (by have := hb.size; simp; omega) ?_; intro A5 c5 w5 ho5 hg5 hr5)
                go_roundw
                case rel =>
                  refine ⟨k + 1, r ++ [shiftPc more x], A5, c5, by omega, ?_, by simp [HRL.out], by go_num, rfl, ho5, ((hb.alloc hb.size _).alloc (by have := hb.size; simp; omega) _).grown hg5 (by have := hb.size; simp; omega) (fun z hz => (ho.2.row z hz).1), ?_⟩
                  · rw [take_succ_of hx.out, List.map_append, HR.out]; rfl
                  · intro y hy
                    rw [take_succ_of hx.out] at hy
                    rcases List.mem_append.1 hy with hy | hy
                    · exact HALL.out y hy
                    · simp at hy; subst hy; omega
                case measure => simp [intOf]; omega
          · obtain rfl : k = n := by omega
            have hfull : l.take k = l := List.take_of_length_le (by rw [HL.out]; omega)
            have hkr : keeps stagger r = true := by rw [HR.out, hfull, keeps_shift stagger more h1 h2 h3 h4 l (by rw [← hfull]; exact HALL.out), hk]
            have hokr : Hid (∀ x ∈ r, (Lit.int .i64 x.n).wf = true) := by
              show ∀ x ∈ r, (Lit.int .i64 x.n).wf = true
              rw [HR.out, hfull]
              intro x hx
              obtain ⟨y, hy, rfl⟩ := List.mem_map.1 hx
              exact HOK.out y hy
            have HF := Lib.hid hfull
            clear hfull
            go_wp2_with fail
            refine (Keeps_any stagger _ _ _ _ r _ ho.recs (Nat.le_refl _) (by omega) hokr.out).mono ?_
            rintro e w6 ⟨rfl, hb6⟩
            go_wp2_with fail
            refine (wakes14_any _).mono ?_
            rintro e w7 ⟨rfl, hb7⟩
            go_wp2_with fail
            go_ret
            exact ⟨rfl, (hb.trans (hb6.mono hb.size)).trans (hb7.mono (Nat.le_trans hb.size hb6.size))⟩

theorem PaceBegins_walk (A : Option Addr) (n c : Nat) (l : List Pc) (stagger cut more : Int) (w : World) (hl : Pcs w w.heap.size A n l) (hok : ∀ x ∈ l, okPc x) (hn : n ≤ 9223372036854775807) (hnc : n ≤ c) :
    Calls Try.prog 5 #[.slice A n c, .int .i64 stagger, .int .i64 cut, .int .i64 more] w fun e w' => e = .returned (.bool true) ∧ Below w.heap.size w w' := by
  rcases (by omega : 100 < n ∨ (n ≤ 100 ∧ more < 0) ∨ (n ≤ 100 ∧ 0 ≤ more ∧ 1000 < more) ∨ (n ≤ 100 ∧ 0 ≤ more ∧ more ≤ 1000 ∧ stagger < 0) ∨ (n ≤ 100 ∧ 0 ≤ more ∧ more ≤ 1000 ∧ 0 ≤ stagger ∧ 1048576 < stagger) ∨
      (n ≤ 100 ∧ 0 ≤ more ∧ more ≤ 1000 ∧ 0 ≤ stagger ∧ stagger ≤ 1048576)) with g1 | ⟨g1, g2⟩ | ⟨g1, g2, g3⟩ | ⟨g1, g2, g3, g4⟩ | ⟨g1, g2, g3, g4, g5⟩ | ⟨g1, g2, g3, g4, g5⟩
  · have d1 : decide (100 < n) = true := by simp; omega
    go_enter Try.func5, Try.ntmps5
    go_wp2_with (first | (go_at_call 11; refine (rGreat14_any _ _ _ _ hn).mono ?_; rintro e w' ⟨rfl, rfl⟩) | (go_at_call 7; refine (wakes14_any _).mono ?_; rintro e w' ⟨rfl, hb⟩))
    go_ret
    exact ⟨rfl, hb⟩
  · have d1 : decide (100 < n) = false := by simp; omega
    have d2 : decide (more < 0) = true := by simp; omega
    go_enter Try.func5, Try.ntmps5
    go_wp2_with (first | (go_at_call 11; refine (rGreat14_any _ _ _ _ hn).mono ?_; rintro e w' ⟨rfl, rfl⟩) | (go_at_call 7; refine (wakes14_any _).mono ?_; rintro e w' ⟨rfl, hb⟩))
    go_ret
    exact ⟨rfl, hb⟩
  · have d1 : decide (100 < n) = false := by simp; omega
    have d2 : decide (more < 0) = false := by simp; omega
    have d3 : decide (1000 < more) = true := by simp; omega
    go_enter Try.func5, Try.ntmps5
    go_wp2_with (first | (go_at_call 11; refine (rGreat14_any _ _ _ _ hn).mono ?_; rintro e w' ⟨rfl, rfl⟩) | (go_at_call 7; refine (wakes14_any _).mono ?_; rintro e w' ⟨rfl, hb⟩))
    go_ret
    exact ⟨rfl, hb⟩
  · have d1 : decide (100 < n) = false := by simp; omega
    have d2 : decide (more < 0) = false := by simp; omega
    have d3 : decide (1000 < more) = false := by simp; omega
    have d4 : decide (stagger < 0) = true := by simp; omega
    go_enter Try.func5, Try.ntmps5
    go_wp2_with (first | (go_at_call 11; refine (rGreat14_any _ _ _ _ hn).mono ?_; rintro e w' ⟨rfl, rfl⟩) | (go_at_call 7; refine (wakes14_any _).mono ?_; rintro e w' ⟨rfl, hb⟩))
    go_ret
    exact ⟨rfl, hb⟩
  · have d1 : decide (100 < n) = false := by simp; omega
    have d2 : decide (more < 0) = false := by simp; omega
    have d3 : decide (1000 < more) = false := by simp; omega
    have d4 : decide (stagger < 0) = false := by simp; omega
    have d5 : decide (1048576 < stagger) = true := by simp; omega
    go_enter Try.func5, Try.ntmps5
    go_wp2_with (first | (go_at_call 11; refine (rGreat14_any _ _ _ _ hn).mono ?_; rintro e w' ⟨rfl, rfl⟩) | (go_at_call 7; refine (wakes14_any _).mono ?_; rintro e w' ⟨rfl, hb⟩))
    go_ret
    exact ⟨rfl, hb⟩
  · exact PaceBegins_in A n c l stagger cut more w hl (fun x hx => (hok x hx).1) g1 hnc g2 g3 g4 g5
end Go.Proofs.Ytcmgcbkhjdeinaa
