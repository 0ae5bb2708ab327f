/-
  What Worst and Heal of switchboardref12 compute. Conditions: the slices read as lists of at most 1000.
-/
import Derived.Test.YtgpijomnnnjgkaaScarRef2
namespace Go.Proofs.Ytgpijomnnnjgkaa
open Go.RowKit Go.Shelf

set_option maxRecDepth 100000 in
set_option maxHeartbeats 1600000 in
theorem rWorst_any (A : Option Addr) (n c : Nat) (l : List Sc) (long now : Int) (w : World) (hl : Scs w w.heap.size A n l) (hn : n ≤ 1000) :
    Calls Try.prog 16 #[.slice A n c, .int .i64 long, .int .i64 now] w fun e w' => e = .returned (.tuple #[valAd (worstL (l.filter (freshR long now))), .bool (decide (0 < (l.filter (freshR long now)).length))]) ∧ Below w.heap.size w w' := by
  obtain ⟨F, hF⟩ : ∃ F, F = l.filter (freshR long now) := ⟨_, rfl⟩
  have hFl : F.length ≤ 1000 := by rw [hF]; exact Nat.le_trans (List.length_filter_le _ _) (by rw [hl.1]; exact hn)
  obtain ⟨m, hm⟩ : ∃ m, F.length = m := ⟨_, rfl⟩
  rw [hm] at hFl
  have HM := Lib.hid hm
  have HFF := Lib.hid hF
  clear hF
  go_enter Try.func16, Try.ntmps16
  go_wp2_with fail
  refine (rFresh_any A n c l long now _ ((hl.alloc (Nat.le_refl _) _).more (by first | omega | (simp; done) | (simp; omega))) hn).mono ?_
  rw [← HFF.out, HM.out]
  rintro e w1 ⟨A1, c1, rfl, ho1, hb1⟩
  have r1 := ho1.recs
  have hz : w1.heap[w.heap.size]? = some (.cells #[.int .i8 zeroAd.1, .int .u16 zeroAd.2.1, .int .u16 zeroAd.2.2.1, .int .u16 zeroAd.2.2.2.1, .int .u16 zeroAd.2.2.2.2.1, .int .u16 zeroAd.2.2.2.2.2.1, .int .u16 zeroAd.2.2.2.2.2.2.1, .int .u16 zeroAd.2.2.2.2.2.2.2.1, .int .u16 zeroAd.2.2.2.2.2.2.2.2.1, .int .i64 zeroAd.2.2.2.2.2.2.2.2.2] 31 (0, 0)) := (hb1.block w.heap.size (by simp)).trans (heap_alloc_new w _)
  have hbw := (Below.new_ w (.cells #[.int .i8 zeroAd.1, .int .u16 zeroAd.2.1, .int .u16 zeroAd.2.2.1, .int .u16 zeroAd.2.2.2.1, .int .u16 zeroAd.2.2.2.2.1, .int .u16 zeroAd.2.2.2.2.2.1, .int .u16 zeroAd.2.2.2.2.2.2.1, .int .u16 zeroAd.2.2.2.2.2.2.2.1, .int .u16 zeroAd.2.2.2.2.2.2.2.2.1, .int .i64 zeroAd.2.2.2.2.2.2.2.2.2] 31)).trans (hb1.mono (by first | omega | (simp; done) | (simp; omega)))
  have hcc := c1
  clear ho1 hb1
  by_cases h0 : m = 0
  · subst h0
    have hq := worstL_none HM.out
    have HQ := Lib.hid hq
    clear hq hm
    obtain ⟨z0, z1, z2, z3, z4, z5, z6, z7, z8, z9⟩ := ad_cells (x := zeroAd) hz
    obtain ⟨f0, f1, f2, f3, f4, f5, f6, f7, f8, f9⟩ := ad_free hz
    go_wp2_with fail
    obtain ⟨q0, q1, q2, q3, q4, q5, q6, q7, q8, q9⟩ := ad_cells (putAd_at zeroAd hz)
    unfold putAd at q0 q1 q2 q3 q4 q5 q6 q7 q8 q9
    simp only [zeroAd] at q0 q1 q2 q3 q4 q5 q6 q7 q8 q9
    exact bodyPost_ret (v := .tuple #[valAd zeroAd, .bool false]) (by simp [results, Try.results16, go_sem, valAd, zeroAd, q0, q1, q2, q3, q4, q5, q6, q7, q8, q9]) rfl ⟨by rw [← HFF.out, HQ.out, HM.out]; rfl, putAd_below zeroAd hbw (Nat.le_refl _)⟩
  · obtain ⟨b, off, x, rfl, hbb, hx, hc0, hc1, hc2, hc3, hc4, hc5, hc6, hc7, hc8, hc9, hc10⟩ := Scs.cells r1 (i := m - 1) (by omega)
    have hq := worstL_at HM.out hx.out
    have HQ := Lib.hid hq
    have i1 : (1 : Int) ≤ (m : Int) := by omega
    have i2 : (0 : Int) ≤ (m : Int) - 1 := by omega
    have i3 : (m : Int) - 1 < (m : Int) := by omega
    have i5 : ((m : Int) - 1).toNat = m - 1 := by omega
    have i6 : IntKind.i64.wrap ((m : Int) - 1) = (m : Int) - 1 := IntWalk.i64_in _ (by omega)
    have hd : ((m : Int) == 0) = false := by simp; omega
    clear hq hm
    obtain ⟨z0, z1, z2, z3, z4, z5, z6, z7, z8, z9⟩ := ad_cells (x := zeroAd) hz
    obtain ⟨f0, f1, f2, f3, f4, f5, f6, f7, f8, f9⟩ := ad_free hz
    go_wp2_with fail
    obtain ⟨q0, q1, q2, q3, q4, q5, q6, q7, q8, q9⟩ := ad_cells (putAd_at x.1 hz)
    unfold putAd at q0 q1 q2 q3 q4 q5 q6 q7 q8 q9
    exact bodyPost_ret (v := .tuple #[valAd x.1, .bool true]) (by simp [results, Try.results16, go_sem, valAd, q0, q1, q2, q3, q4, q5, q6, q7, q8, q9]) rfl ⟨by rw [← HFF.out, HQ.out, HM.out, decide_eq_true (show 0 < m by omega)], putAd_below x.1 hbw (Nat.le_refl _)⟩
theorem healL_snoc (l : List Sc) (a : List Ad) (y : Ad) : healL l (a ++ [y]) = healL (healL l a) [y] := by
  unfold healL
  rw [List.filter_filter]
  refine List.filter_congr fun x _ => ?_
  simp only [healR, List.mem_append, List.mem_singleton]
  rw [Bool.eq_iff_iff]
  simp only [Bool.not_eq_true', decide_eq_false_iff_not, Bool.and_eq_true]
  constructor
  · intro h; exact ⟨fun e => h (Or.inr e), fun e => h (Or.inl e)⟩
  · rintro ⟨h1, h2⟩ (h | h)
    · exact h2 h
    · exact h1 h
theorem healL_nil (l : List Sc) : healL l [] = l := by
  unfold healL
  rw [List.filter_eq_self]
  intro x _
  simp [healR]
set_option maxRecDepth 100000 in
set_option maxHeartbeats 3000000 in
theorem rHeal_any (A : Option Addr) (n c : Nat) (l : List Sc) (As : Option Addr) (ns cs : Nat) (ls : List Ad) (w : World) (hl : Scs w w.heap.size A n l) (hn : n ≤ 1000) (hs : Ads w w.heap.size As ns ls) (hns : ns ≤ 1000) :
    Calls Try.prog 19 #[.slice A n c, .slice As ns cs] w fun e w' => ∃ A' c', e = .returned (.slice A' (healL l ls).length c') ∧ OwSc w' w.heap.size A' (healL l ls).length c' (healL l ls) ∧ Below w.heap.size w w' := by
  have HL := Lib.hid hl.1
  have HS := Lib.hid hs.1
  have hz : 0 + n = n := Nat.zero_add n
  have HZ := Lib.hid hz
  clear hz
  go_enter Try.func19, Try.ntmps19
  go_wp2_with (at_builtin; refine wpList_appSc _ rfl (.tmp 7) (.tmp 8) rfl w.heap.size _ _ _ [] rfl (OwR.nil_ _ _ _ _) w.heap.size _ _ _ l rfl hl (by omega) (Nat.le_refl _) ?_; intro A1 c1 w1 ho1 hg1 hr1; rw [HZ.out, List.nil_append] at ho1; rw [HZ.out]; have hb1 : Below w.heap.size w w1 := (Below.refl _ _).grown hg1 (Nat.le_refl _) (by simp [rowOf]))
  clear hg1 hr1
  go_loopw [5, 6] (fun s5 s6 wr => ∃ (k : Nat) (A' : Option Addr) (c' : Nat), k ≤ ns ∧ s6 = .int .i64 k ∧ s5 = .slice A' (healL l (ls.take k)).length c' ∧ OwSc wr w.heap.size A' (healL l (ls.take k)).length c' (healL l (ls.take k)) ∧ Below w.heap.size w wr) (fun _ s6 _ => ns - (intOf s6).toNat)
  case atStart => exact ⟨0, A1, c1, Nat.zero_le _, rfl, by rw [List.take_zero, healL_nil, HL.out], by rw [List.take_zero, healL_nil, HL.out]; exact ho1, hb1⟩
  case round =>
    clear ho1 hb1
    obtain ⟨k, A2, c2, hk, rfl, rfl, ho, hb⟩ := hrel
    have hsz := hb.size
    by_cases hlt : k < ns
    · obtain ⟨b, off, x, rfl, hbb, hx, hc0, hc1, hc2, hc3, hc4, hc5, hc6, hc7, hc8, hc9⟩ := Ads.cells (hs.below hb) hlt
      have hlen : (healL l (ls.take k)).length ≤ 1000 := Nat.le_trans (healL_le _ _) (by rw [HL.out]; exact hn)
      have hst : healL l (ls.take (k + 1)) = healL (healL l (ls.take k)) [x] := by rw [take_succ_of hx.out, healL_snoc]
      have HST := Lib.hid hst
      clear hst
      go_wp2_with fail
      refine (without_any _ _ _ (healL l (ls.take k)) x _ ho.recs hlen).mono ?_
      rw [← HST.out]
      rintro e w2 ⟨A3, c3, rfl, ho3, hb3⟩
      have hbw := hb.trans (hb3.mono hsz)
      replace ho3 : OwSc w2 w.heap.size A3 (healL l (ls.take (k + 1))).length c3 (healL l (ls.take (k + 1))) := ⟨ho3.1, Ow.rebase ho3.2 hsz⟩
      clear hb3
      go_wp2_with fail
      go_roundw
      case rel => exact ⟨k + 1, A3, c3, by omega, by go_num, rfl, ho3, hbw⟩
      case measure => simp [intOf]; omega
    · obtain rfl : k = ns := by omega
      rw [List.take_of_length_le (by rw [HS.out]; omega)] at ho
      rw [List.take_of_length_le (by rw [HS.out]; omega)]
      go_wp2_with fail
      go_ret
      exact ⟨A2, c2, rfl, ho, hb⟩
end Go.Proofs.Ytgpijomnnnjgkaa
