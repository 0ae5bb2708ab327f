/-
  What scar.Has, Worst, Same compute. Conditions: a slice argument reads as a list of at most 1000.
-/
import Derived.Test.YtgpijomnnnjgkaaScar3
import Derived.Deep.RegionWith
namespace Go.Proofs.Ytgpijomnnnjgkaa
open Go.RowKit Go.Shelf

set_option maxHeartbeats 400000 in
theorem CloneSc_any (A : Option Addr) (n c B : Nat) (l : List Sc) (w : World) (hl : Scs w B A n l) (hn : n ≤ 100000) :
    Calls Try.prog 23 #[.slice A n c] w fun e w' => ∃ A' c', e = .returned (.slice A' n c') ∧ OwSc w' w.heap.size A' n c' l ∧ Below w.heap.size w w' := by
  have hq := fun wx => Lib.run_eql_slice_nil (P := Try.prog) wx 25 33 A n c 0 0 Try.underlying25
  rcases A with _ | a
  · have hn0 : n = 0 := by
      rcases Nat.eq_zero_or_pos n with h | h
      · exact h
      · obtain ⟨b, off, e, _⟩ := hl.2.2 h (by omega)
        cases e
    have hl0 : l = [] := List.eq_nil_of_length_eq_zero (by rw [hl.1]; exact hn0)
    subst hn0 hl0
    go_enter Try.func23, Try.ntmps23
    go_wp2
    go_ret
    exact ⟨none, 0, rfl, OwR.nil_ _ _ _ _, Below.refl _ _⟩
  · rcases Nat.eq_zero_or_pos n with h0 | h0
    · subst h0
      have hl0 : l = [] := List.eq_nil_of_length_eq_zero hl.1
      subst hl0
      go_enter Try.func23, Try.ntmps23
      go_wp2_with (at_builtin; refine wpList_appSc _ rfl (.tmp 5) (.tmp 6) rfl w.heap.size _ _ _ _ rfl (OwR.nil_ _ _ _ _) B _ _ _ [] rfl (Recs.nil_ _ _ _) (by omega) (by simp) ?_; intro A2 c2 w2 ho2 hg2 hr2)
      go_ret
      exact ⟨A2, c2, rfl, ho2, (Below.new_ w _).grown hg2 (by simp) (by simp [rowOf])⟩
    · obtain ⟨b, off, ha, hbb, hcells⟩ := hl.2.2 h0 (by omega)
      obtain rfl : a = ⟨b, off, none⟩ := by injection ha
      have hlt : b < w.heap.size := by
        obtain ⟨b', off', x, ha', _, _, hc⟩ := hl.at_ encSc_len (by decide) h0
        injection ha' with ha'
        injection ha' with e1 e2
        subst e1
        exact block_lt_of_cell (hc 0 ((encSc x)[0]'(by rw [encSc_len]; decide)) (List.getElem?_eq_getElem _))
      have hl2 : Scs w w.heap.size (some ⟨b, off, none⟩) n l := ⟨hl.1, hl.2.1, fun _ _ => ⟨b, off, rfl, hlt, hcells⟩⟩
      clear ha hcells
      go_enter Try.func23, Try.ntmps23
      go_wp2_with (at_builtin; refine wpList_appSc _ rfl (.tmp 5) (.tmp 6) rfl w.heap.size _ _ _ _ rfl (OwR.nil_ _ _ _ _) w.heap.size _ _ _ l rfl (hl2.alloc (Nat.le_refl _) _) (by omega) (by simp) ?_; intro A2 c2 w2 ho2 hg2 hr2)
      go_ret
      exact ⟨A2, c2, by simp, by simpa using ho2, (Below.new_ w _).grown hg2 (by simp) (by simp [rowOf])⟩
set_option maxHeartbeats 800000 in
theorem EqualSc_any (A1 A2 : Option Addr) (n1 n2 c1 c2 B1 B2 : Nat) (a b : List Sc) (w : World) (ha : Scs w B1 A1 n1 a) (hb : Scs w B2 A2 n2 b) (hn1 : n1 ≤ 100000) (hn2 : n2 ≤ 100000) :
    Calls Try.prog 33 #[.slice A1 n1 c1, .slice A2 n2 c2] w fun e w' => e = .returned (.bool (decide (a = b))) ∧ Below w.heap.size w w' := by
  have HA := Lib.hid ha.1
  have HB := Lib.hid hb.1
  by_cases hne : n1 = n2
  · subst hne
    go_enter Try.func33, Try.ntmps33
    go_wp2
    go_loopw [13] (fun s5 wr => ∃ (k : Nat), k ≤ n1 ∧ s5 = .int .i64 k ∧ Hid (a.take k = b.take k) ∧ ∃ nq, wr = w.drewN nq) (fun s5 _ => n1 - (intOf s5).toNat)
    case atStart => exact ⟨0, Nat.zero_le _, rfl, rfl, 0, rfl⟩
    case round =>
      obtain ⟨k, hk, rfl, hab, nq, rfl⟩ := hrel
      by_cases hlt : k < n1
      · obtain ⟨b1, o1, x, rfl, _, hx, hd0, hd1, hd2, hd3, hd4, hd5, hd6, hd7, hd8, hd9, hd10⟩ := Scs.cells ha hlt
        obtain ⟨b2, o2, y, rfl, _, hy, hf0, hf1, hf2, hf3, hf4, hf5, hf6, hf7, hf8, hf9, hf10⟩ := Scs.cells hb hlt
        by_cases hxy : x = y
        · have hs : Hid (a.take (k + 1) = b.take (k + 1)) := by show _ = _; rw [take_succ_of hx.out, take_succ_of hy.out, hab.out, hxy]
          have hE := fun wx => eqSc x y wx
          rw [decide_eq_true hxy] at hE
          unfold valSc at hE
          have HX := Lib.hid hxy
          clear hxy
          go_wp2
          go_quiet (fail)
          go_wp2
          go_roundw
          case rel => exact ⟨k + 1, by omega, by go_num, hs, _, rfl⟩
          case measure => simp [intOf]; omega
        · have hs : decide (a = b) = false := by
            simp only [decide_eq_false_iff_not]
            intro e
            have h1 := hx.out
            rw [e, hy.out] at h1
            injection h1 with h1
            exact hxy h1.symm
          have HS := Lib.hid hs
          have hE := fun wx => eqSc x y wx
          rw [decide_eq_false hxy] at hE
          unfold valSc at hE
          have HX := Lib.hid hxy
          clear hxy hs
          go_wp2
          go_quiet (fail)
          go_wp2
          go_ret
          exact ⟨ret_bool HS.out.symm, ⟨rfl, rfl, rfl, Nat.le_refl _, fun _ _ => rfl⟩⟩
      · have hs : decide (a = b) = true := by
          have h := hab.out
          rw [List.take_of_length_le (by rw [HA.out]; omega), List.take_of_length_le (by rw [HB.out]; omega)] at h
          simp [h]
        have HS := Lib.hid hs
        clear hs
        go_wp2
        go_ret
        exact ⟨ret_bool HS.out.symm, ⟨rfl, rfl, rfl, Nat.le_refl _, fun _ _ => rfl⟩⟩
  · have hd : ((n1 : Int) != (n2 : Int)) = true := by simp; omega
    have hs : decide (a = b) = false := by
      simp only [decide_eq_false_iff_not]
      intro e
      exact hne (by rw [← HA.out, ← HB.out, e])
    have HS := Lib.hid hs
    have HN := Lib.hid hne
    clear hs hne
    go_enter Try.func33, Try.ntmps33
    go_wp2
    go_ret
    exact ⟨ret_bool HS.out.symm, Below.refl _ _⟩
set_option maxHeartbeats 800000 in
theorem rSame12_any (A1 A2 : Option Addr) (n1 n2 c1 c2 B1 B2 : Nat) (a b : List Sc) (w : World) (ha : Scs w B1 A1 n1 a) (hb : Scs w B2 A2 n2 b) (hn1 : n1 ≤ 100000) (hn2 : n2 ≤ 100000) :
    Calls Try.prog 17 #[.slice A1 n1 c1, .slice A2 n2 c2] w fun e w' => e = .returned (.bool (decide (a = b))) ∧ Below w.heap.size w w' := by
  have HA := Lib.hid ha.1
  have HB := Lib.hid hb.1
  by_cases hne : n1 = n2
  · subst hne
    go_enter Try.func17, Try.ntmps17
    go_wp2
    go_loopw [5] (fun s5 wr => ∃ (k : Nat), k ≤ n1 ∧ s5 = .int .i64 k ∧ Hid (a.take k = b.take k) ∧ ∃ nq, wr = w.drewN nq) (fun s5 _ => n1 - (intOf s5).toNat)
    case atStart => exact ⟨0, Nat.zero_le _, rfl, rfl, 0, rfl⟩
    case round =>
      obtain ⟨k, hk, rfl, hab, nq, rfl⟩ := hrel
      by_cases hlt : k < n1
      · obtain ⟨b1, o1, x, rfl, _, hx, hd0, hd1, hd2, hd3, hd4, hd5, hd6, hd7, hd8, hd9, hd10⟩ := Scs.cells ha hlt
        obtain ⟨b2, o2, y, rfl, _, hy, hf0, hf1, hf2, hf3, hf4, hf5, hf6, hf7, hf8, hf9, hf10⟩ := Scs.cells hb hlt
        by_cases hxy : x = y
        · have hs : Hid (a.take (k + 1) = b.take (k + 1)) := by show _ = _; rw [take_succ_of hx.out, take_succ_of hy.out, hab.out, hxy]
          have hE := fun wx => eqSc x y wx
          rw [decide_eq_true hxy] at hE
          unfold valSc at hE
          have HX := Lib.hid hxy
          clear hxy
          go_wp2
          go_quiet (fail)
          go_wp2
          go_roundw
          case rel => exact ⟨k + 1, by omega, by go_num, hs, _, rfl⟩
          case measure => simp [intOf]; omega
        · have hs : decide (a = b) = false := by
            simp only [decide_eq_false_iff_not]
            intro e
            have h1 := hx.out
            rw [e, hy.out] at h1
            injection h1 with h1
            exact hxy h1.symm
          have HS := Lib.hid hs
          have hE := fun wx => eqSc x y wx
          rw [decide_eq_false hxy] at hE
          unfold valSc at hE
          have HX := Lib.hid hxy
          clear hxy hs
          go_wp2
          go_quiet (fail)
          go_wp2
          go_ret
          exact ⟨ret_bool HS.out.symm, ⟨rfl, rfl, rfl, Nat.le_refl _, fun _ _ => rfl⟩⟩
      · have hs : decide (a = b) = true := by
          have h := hab.out
          rw [List.take_of_length_le (by rw [HA.out]; omega), List.take_of_length_le (by rw [HB.out]; omega)] at h
          simp [h]
        have HS := Lib.hid hs
        clear hs
        go_wp2
        go_ret
        exact ⟨ret_bool HS.out.symm, ⟨rfl, rfl, rfl, Nat.le_refl _, fun _ _ => rfl⟩⟩
  · have hd : ((n1 : Int) != (n2 : Int)) = true := by simp; omega
    have hs : decide (a = b) = false := by
      simp only [decide_eq_false_iff_not]
      intro e
      exact hne (by rw [← HA.out, ← HB.out, e])
    have HS := Lib.hid hs
    have HN := Lib.hid hne
    clear hs hne
    go_enter Try.func17, Try.ntmps17
    go_wp2
    go_ret
    exact ⟨ret_bool HS.out.symm, Below.refl _ _⟩

set_option maxRecDepth 100000 in
set_option maxHeartbeats 1600000 in
theorem IndexFuncSc_any (fid : FuncId) (eg : ∀ args w, (callFunc fid args).run Try.prog w = .ok (.enter fid args) w) (caps : Array Value) (p : Sc → Bool) (A : Option Addr) (n c : Nat) (l : List Sc) (w : World) (hl : Scs w w.heap.size A n l) (hn : n ≤ 1000)
    (hf : ∀ (x : Sc) (wx : World), Below w.heap.size w wx → Calls Try.prog fid (#[.agg #[.int .i8 x.1.1, .int .u16 x.1.2.1, .int .u16 x.1.2.2.1, .int .u16 x.1.2.2.2.1, .int .u16 x.1.2.2.2.2.1, .int .u16 x.1.2.2.2.2.2.1, .int .u16 x.1.2.2.2.2.2.2.1, .int .u16 x.1.2.2.2.2.2.2.2.1, .int .u16 x.1.2.2.2.2.2.2.2.2.1, .int .i64 x.1.2.2.2.2.2.2.2.2.2, .int .i64 x.2]] ++ caps) wx fun e w' => e = .returned (.bool (p x)) ∧ Below wx.heap.size wx w') :
    Calls Try.prog 34 #[.slice A n c, .func (.func fid) #[] caps] w fun e w' => ∃ r : Int, e = .returned (.int .i64 r) ∧ decide (0 ≤ r) = l.any p ∧ Below w.heap.size w w' := by
  have HL := Lib.hid hl.1
  have HF := Lib.hid hf
  clear hf
  go_enter Try.func34, Try.ntmps34
  go_wp2_with fail
  go_loopw [8] (fun s8 wr => ∃ k : Nat, k ≤ n ∧ s8 = .int .i64 k ∧ Hid ((l.take k).any p = false) ∧ Below w.heap.size w wr) (fun s8 _ => n - (intOf s8).toNat)
  case atStart => exact ⟨0, Nat.zero_le _, rfl, by show _ = _; simp, Below.refl _ _⟩
  case round =>
    obtain ⟨k, hk, rfl, hno, hb⟩ := hrel
    by_cases hlt : k < n
    · obtain ⟨b, off, y, rfl, hbb, hy, hd0, hd1, hd2, hd3, hd4, hd5, hd6, hd7, hd8, hd9, hd10⟩ := Scs.cells (hl.below hb) hlt
      have hcall := HF.out y _ hb
      cases hp : p y
      all_goals
        rw [hp] at hcall
        have hno2 : Hid ((l.take (k + 1)).any p = p y) := by
          show _ = _
          rw [take_succ_of hy.out, List.any_append, hno.out]
          simp
        have HP := Lib.hid hp
        clear hp
        go_wp2_with (go_at_fn fid; refine hcall.mono ?_; rintro e w2 ⟨rfl, hb2⟩)
        first
          | (go_ret
             refine ⟨k, rfl, ?_, hb.trans (hb2.mono hb.size)⟩
             have h1 := hno2.out
             rw [HP.out, List.any_eq_true] at h1
             obtain ⟨z, hz, hz2⟩ := h1
             have : l.any p = true := List.any_eq_true.2 ⟨z, List.mem_of_mem_take hz, hz2⟩
             rw [this]; simp; done)
          | (go_roundw
             case rel => exact ⟨k + 1, by omega, by go_num, by show _ = _; rw [hno2.out, HP.out], hb.trans (hb2.mono hb.size)⟩
             case measure => simp [intOf]; omega)
    · have hfin : l.any p = false := by
        have := hno.out
        rwa [List.take_of_length_le (by rw [HL.out]; omega)] at this
      have HFIN := Lib.hid hfin
      clear hfin
      go_wp2_with fail
      go_ret
      exact ⟨-1, rfl, by rw [HFIN.out]; decide, hb⟩
theorem ContainsFuncSc_any (fid : FuncId) (eg : ∀ args w, (callFunc fid args).run Try.prog w = .ok (.enter fid args) w) (caps : Array Value) (p : Sc → Bool) (A : Option Addr) (n c : Nat) (l : List Sc) (w : World) (hl : Scs w w.heap.size A n l) (hn : n ≤ 1000)
    (hf : ∀ (x : Sc) (wx : World), Below w.heap.size w wx → Calls Try.prog fid (#[.agg #[.int .i8 x.1.1, .int .u16 x.1.2.1, .int .u16 x.1.2.2.1, .int .u16 x.1.2.2.2.1, .int .u16 x.1.2.2.2.2.1, .int .u16 x.1.2.2.2.2.2.1, .int .u16 x.1.2.2.2.2.2.2.1, .int .u16 x.1.2.2.2.2.2.2.2.1, .int .u16 x.1.2.2.2.2.2.2.2.2.1, .int .i64 x.1.2.2.2.2.2.2.2.2.2, .int .i64 x.2]] ++ caps) wx fun e w' => e = .returned (.bool (p x)) ∧ Below wx.heap.size wx w') :
    Calls Try.prog 24 #[.slice A n c, .func (.func fid) #[] caps] w fun e w' => e = .returned (.bool (l.any p)) ∧ Below w.heap.size w w' := by
  have HF := Lib.hid hf
  clear hf
  go_enter Try.func24, Try.ntmps24
  go_wp2_with fail
  refine (IndexFuncSc_any fid eg caps p _ _ _ l _ hl hn HF.out).mono ?_
  rintro e w2 ⟨r, rfl, hr, hb⟩
  have HR := Lib.hid hr
  clear hr
  go_wp2_with fail
  go_ret
  exact ⟨ret_bool HR.out, hb⟩
def isAt (y : Ad) (x : Sc) : Bool := decide (x.1 = y)
set_option maxRecDepth 100000 in
set_option maxHeartbeats 800000 in
theorem hasC_any (x : Sc) (y : Ad) (g : Nat) (w : World) (hg : w.heap[g]? = some (.cells #[.int .i8 y.1, .int .u16 y.2.1, .int .u16 y.2.2.1, .int .u16 y.2.2.2.1, .int .u16 y.2.2.2.2.1, .int .u16 y.2.2.2.2.2.1, .int .u16 y.2.2.2.2.2.2.1, .int .u16 y.2.2.2.2.2.2.2.1, .int .u16 y.2.2.2.2.2.2.2.2.1, .int .i64 y.2.2.2.2.2.2.2.2.2] 31 (0, 0))) :
    Calls Try.prog 25 #[.agg #[.int .i8 x.1.1, .int .u16 x.1.2.1, .int .u16 x.1.2.2.1, .int .u16 x.1.2.2.2.1, .int .u16 x.1.2.2.2.2.1, .int .u16 x.1.2.2.2.2.2.1, .int .u16 x.1.2.2.2.2.2.2.1, .int .u16 x.1.2.2.2.2.2.2.2.1, .int .u16 x.1.2.2.2.2.2.2.2.2.1, .int .i64 x.1.2.2.2.2.2.2.2.2.2, .int .i64 x.2], .pointer (some ⟨g, 0, none⟩)] w fun e w' => e = .returned (.bool (isAt y x)) ∧ Below w.heap.size w w' := by
  have l1 : g < w.heap.size := lt_of_block hg
  obtain ⟨hc0, hc1, hc2, hc3, hc4, hc5, hc6, hc7, hc8, hc9⟩ := ad_cells hg
  clear hg
  have hE := fun wx => eqAd x.1 y wx
  rw [show decide (x.1 = y) = isAt y x from rfl] at hE
  unfold valAd at hE
  go_enter Try.func25, Try.ntmps25
  go_wp2_with fail
  go_ret
  exact ⟨rfl, Below.new_ _ _⟩
def hasB (l : List Sc) (long now : Int) (a : List Ad) : Bool := a.all fun y => (l.filter (freshR long now)).any (isAt y)
set_option maxRecDepth 100000 in
set_option maxHeartbeats 1600000 in
theorem Has_any (A : Option Addr) (n c : Nat) (l : List Sc) (long now : Int) (As : Option Addr) (ns cs : Nat) (ls : List Ad) (w : World) (hl : Scs w w.heap.size A n l) (hn : n ≤ 1000) (hs : Ads w w.heap.size As ns ls) (hns : ns ≤ 1000) :
    Calls Try.prog 11 #[.slice A n c, .int .i64 long, .int .i64 now, .slice As ns cs] w fun e w' => e = .returned (.bool (hasB l long now ls)) ∧ Below w.heap.size w w' := by
  have eg := enters_of Try.func25 (by kernel_rfl) rfl
  have HS := Lib.hid hs.1
  obtain ⟨F, hF⟩ : ∃ F, F = l.filter (freshR long now) := ⟨_, rfl⟩
  have hFl : F.length ≤ 1000 := by rw [hF]; exact Nat.le_trans (List.length_filter_le _ _) (by rw [hl.1]; exact hn)
  have HFF := Lib.hid hF
  clear hF
  go_enter Try.func11, Try.ntmps11
  go_wp2_with fail
  refine (Fresh_any A n c l long now _ hl hn).mono ?_
  rw [← HFF.out]
  rintro e w1 ⟨A1, c1, rfl, ho1, hb1⟩
  have r1 := ho1.recs
  clear ho1
  go_wp2_with fail
  go_loopw [18] (fun s18 wr => ∃ k : Nat, k ≤ ns ∧ s18 = .int .i64 k ∧ Hid ((ls.take k).all (fun y => F.any (isAt y)) = true) ∧ Below w1.heap.size w1 wr) (fun s18 _ => ns - (intOf s18).toNat)
  case atStart => exact ⟨0, Nat.zero_le _, rfl, by show _ = _; simp, Below.refl _ _⟩
  case round =>
    obtain ⟨k, hk, rfl, hno, hb⟩ := hrel
    have hbw := hb1.trans (hb.mono hb1.size)
    by_cases hlt : k < ns
    · obtain ⟨b, off, y, rfl, hbb, hy, hc0, hc1, hc2, hc3, hc4, hc5, hc6, hc7, hc8, hc9⟩ := Ads.cells (hs.below hbw) hlt
      have hno2 : Hid ((ls.take (k + 1)).all (fun y => F.any (isAt y)) = F.any (isAt y)) := by
        show _ = _
        rw [take_succ_of hy.out, List.all_append, hno.out]
        simp
      have hcall := ContainsFuncSc_any 25 eg #[.pointer (some ⟨wr.heap.size, 0, none⟩)] (isAt y) A1 F.length c1 F (wr.alloc (.cells #[.int .i8 y.1, .int .u16 y.2.1, .int .u16 y.2.2.1, .int .u16 y.2.2.2.1, .int .u16 y.2.2.2.2.1, .int .u16 y.2.2.2.2.2.1, .int .u16 y.2.2.2.2.2.2.1, .int .u16 y.2.2.2.2.2.2.2.1, .int .u16 y.2.2.2.2.2.2.2.2.1, .int .i64 y.2.2.2.2.2.2.2.2.2] 31)) (((r1.below hb).more hb.size |>.alloc (Nat.le_refl _) _).more (by simp)) hFl (fun x wx hbx => hasC_any x y wr.heap.size wx ((hbx.block wr.heap.size (by simp)).trans (heap_alloc_new wr _)))
      cases hp : F.any (isAt y)
      · rw [hp] at hcall
        have hfin : hasB l long now ls = false := by
          unfold hasB
          rw [← HFF.out]
          have h1 := hno2.out
          rw [hp] at h1
          rw [Bool.eq_false_iff]
          intro h2
          rw [List.all_eq_true] at h2
          have : (ls.take (k + 1)).all (fun y => F.any (isAt y)) = true := List.all_eq_true.2 fun z hz => h2 z (List.mem_of_mem_take hz)
          rw [this] at h1
          cases h1
        have HFIN := Lib.hid hfin
        clear hfin hp
        go_wp2_with fail
        refine hcall.mono ?_
        rintro e w3 ⟨rfl, hb3⟩
        have hbw3 := (hbw.alloc hbw.size _).trans (hb3.mono (by have := hbw.size; simp; omega))
        clear hcall hb3
        go_wp2_with fail
        go_ret
        exact ⟨ret_bool HFIN.out.symm, hbw3⟩
      · rw [hp] at hcall
        have hno3 : Hid ((ls.take (k + 1)).all (fun y => F.any (isAt y)) = true) := by show _ = _; rw [hno2.out, hp]
        clear hp
        go_wp2_with fail
        refine hcall.mono ?_
        rintro e w3 ⟨rfl, hb3⟩
        have hb4 := (hb.alloc hb.size _).trans (hb3.mono (by have := hb.size; simp; omega))
        clear hcall hb3
        go_wp2_with fail
        go_roundw
        case rel => exact ⟨k + 1, by omega, by go_num, hno3, hb4⟩
        case measure => simp [intOf]; omega
    · have hfin : hasB l long now ls = true := by
        have := hno.out
        rw [List.take_of_length_le (by rw [HS.out]; omega)] at this
        unfold hasB
        rw [← HFF.out]
        exact this
      have HFIN := Lib.hid hfin
      clear hfin
      go_wp2_with fail
      go_ret
      exact ⟨ret_bool HFIN.out.symm, hbw⟩
theorem SameSc_any (A1 A2 : Option Addr) (n1 n2 c1 c2 : Nat) (a b : List Sc) (w : World) (ha : Scs w w.heap.size A1 n1 a) (hb : Scs w w.heap.size A2 n2 b) (hn1 : n1 ≤ 1000) (hn2 : n2 ≤ 1000) :
    Calls Try.prog 22 #[.slice A1 n1 c1, .slice A2 n2 c2] w fun e w' => e = .returned (.bool (decide (a = b))) ∧ Below w.heap.size w w' := by
  go_enter Try.func22, Try.ntmps22
  go_wp2_with fail
  refine (EqualSc_any _ _ _ _ _ _ _ _ a b _ ha hb (by omega) (by omega)).mono ?_
  rintro e w1 ⟨rfl, hb1⟩
  go_wp2_with fail
  go_ret
  exact ⟨rfl, hb1⟩
end Go.Proofs.Ytgpijomnnnjgkaa
