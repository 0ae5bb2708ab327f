/-
  The walk of the statement CacheLearns. Conditions: none.
-/
import Derived.Test.YtpdbibejocajhaaKnAt
import Derived.Test.YtpdbibejocajhaaKnLaws
namespace Go.Proofs.Ytpdbibejocajhaa
set_option linter.unusedVariables false
set_option linter.unusedSimpArgs false
open Go.RowKit Go.Shelf

theorem put_one (x : Kn) : putK [] [x] = [x] := by simp [putK, oneK, placeK, abovePl]
theorem put_same (x y : Kn) (h : x.1 = y.1) : putK [x] [y] = [y] := by
  have : placeK [x] y.1 = some 0 := by
    rw [placeK_cons, if_pos (by rw [h]; exact sEq_self _)]
  simp [putK, oneK, this]
theorem get_one (x : Kn) (s : ByteArray) (t : Int) (h : x.1 = s) : getK [x] s t = if freshB t x = true then some x else none := by
  rw [getK_find]
  have : findK [x] s = some x := by
    unfold findK
    rw [List.find?_cons, h, sEq_self]
  rw [this]
theorem later_is {now d : Int} (h0 : 0 ≤ now) (h1 : now ≤ 1048600) (h2 : 0 ≤ d) (h3 : d ≤ 1000) : later now [d] = now + d := by
  unfold later
  simp only [List.foldl_cons, List.foldl_nil]
  unfold clamp
  omega
theorem fresh_is {t : Int} {k : Kn} (h0 : 0 ≤ t) (h1 : t ≤ 1073741824) (h2 : 0 ≤ k.2.2.2) (h3 : k.2.2.2 ≤ 1073741824) : freshB t k = decide (t < k.2.2.2) := by
  unfold freshB
  rw [clamp_of h0 h1, clamp_of h2 h3]
set_option maxRecDepth 100000 in
set_option maxHeartbeats 16000000 in
theorem CacheLearns_ok (ttl neg now : Int) (name row : ByteArray) (again : ByteArray) (w : World) (h1 : 1 ≤ ttl) (h2 : 1 ≤ neg) (h3 : ttl ≤ 1000) (h4 : neg ≤ 1000) (h5 : 0 ≤ now) (h6 : now ≤ 1048576) (hs : decide (2000 < wrap64 (wrap64 ((name.size : Int) + (row.size : Int)) + (again.size : Int))) = false) :
    Calls Try.prog 5 #[.int .i64 ttl, .int .i64 neg, .int .i64 now, .string name, .string row, .int .i64 0, .string again] w fun e w' => e = .returned (.bool true) ∧ Below w.heap.size w w' := by
  obtain ⟨E1, hE1⟩ : ∃ E1 : Kn, E1 = (name, row, 0, now + ttl) := ⟨_, rfl⟩
  obtain ⟨E2, hE2⟩ : ∃ E2 : Kn, E2 = (name, again, 0, now + 1 + ttl) := ⟨_, rfl⟩
  have HE1 : Hid (entryK ttl neg name row 0 now = E1) := (by show _ = _; rw [hE1, entryK, if_pos rfl, later_is h5 (by omega) (by omega) h3])
  have HE2 : Hid (entryK ttl neg name again 0 (now + 1) = E2) := (by show _ = _; rw [hE2, entryK, if_pos rfl, later_is (by omega) (by omega) (by omega) h3])
  have hP1 : putK [] [E1] = [E1] := put_one E1
  have HP1 : Hid (putK [] [E1] = [E1]) := hP1
  have HP2 : Hid (putK [E1] [E2] = [E2]) := put_same _ _ (by rw [hE1, hE2])
  have g1 : getK [E1] name (now + ttl - 1) = some E1 := by rw [get_one _ _ _ (by rw [hE1]), fresh_is (by omega) (by omega) (by rw [hE1]; show 0 ≤ now + ttl; omega) (by rw [hE1]; show now + ttl ≤ _; omega), hE1, if_pos (by simp; omega)]
  have g2 : getK [E1] name (now + ttl) = none := by rw [get_one _ _ _ (by rw [hE1]), fresh_is (by omega) (by omega) (by rw [hE1]; show 0 ≤ now + ttl; omega) (by rw [hE1]; show now + ttl ≤ _; omega), hE1, if_neg (by simp)]
  have g3 : getK [E2] name (now + ttl) = some E2 := by rw [get_one _ _ _ (by rw [hE2]), fresh_is (by omega) (by omega) (by rw [hE2]; show 0 ≤ now + 1 + ttl; omega) (by rw [hE2]; show now + 1 + ttl ≤ _; omega), hE2, if_pos (by simp; omega)]
  have HG1 : Hid (gotK (getK [E1] name (now + ttl - 1)) = E1) := (by show _ = _; rw [g1]; rfl)
  have HG1b : Hid ((getK [E1] name (now + ttl - 1)).isSome = true) := (by show _ = _; rw [g1]; rfl)
  have HG2 : Hid (gotK (getK [E1] name (now + ttl)) = zeroKn) := (by show _ = _; rw [g2]; rfl)
  have HG2b : Hid ((getK [E1] name (now + ttl)).isSome = false) := (by show _ = _; rw [g2]; rfl)
  have HG3 : Hid (gotK (getK [E2] name (now + ttl)) = E2) := (by show _ = _; rw [g3]; rfl)
  have HG3b : Hid ((getK [E2] name (now + ttl)).isSome = true) := (by show _ = _; rw [g3]; rfl)
  subst hE1 hE2
  have hcf0 := heap_alloc_new w (.cells #[.int .i64 0, .int .i64 0, .int .i64 0, .int .i64 0, .int .i64 0, .int .i64 0, .int .i64 ttl, .int .i64 neg, .int .i64 0] 40)
  have hb0 := Below.new_ w (.cells #[.int .i64 0, .int .i64 0, .int .i64 0, .int .i64 0, .int .i64 0, .int .i64 0, .int .i64 ttl, .int .i64 neg, .int .i64 0] 40)
  have d1 : decide (min ttl neg < 1) = false := by simp; omega
  have d2 : decide (1000 < max ttl neg) = false := by simp; omega
  have d3 : decide (now < 0) = false := by simp; omega
  have d4 : decide (1048576 < now) = false := by simp; omega
  clear g1 g2 g3 hP1
  go_enter Try.func5, Try.ntmps5
  go_wp2_with fail
  refine (entry_at (cf := (0, 0, 0, 0, 0, 0, ttl, neg, 0)) HE1.out).mono ?_
  rintro e w1 ⟨rfl, hb1⟩
  have hb := hb0.trans (hb1.mono hb0.size)
  have hcf := kn_keep hb1 hcf0
  clear hb1 hb0 hcf0
  have hb2 := hb.alloc hb.size (.cells #[.string name, .string row, .int .i64 0, .int .i64 (now + ttl)] 30)
  replace hcf := kn_keep (Below.new_ w1 (.cells #[.string name, .string row, .int .i64 0, .int .i64 (now + ttl)] 30)) hcf
  go_wp2_with fail
  refine (put_at (Recs.nil_ _ _ _) ((Kns.new1 w1 _ rfl (name, row, 0, now + ttl) 30).more (by simp)) (by omega) (by omega) HP1.out rfl).mono ?_
  rintro e w2 ⟨A2, c2, rfl, h2, hb3⟩
  replace hb := hb2.trans (hb3.mono hb2.size)
  replace hcf := kn_keep hb3 hcf
  clear hb2 hb3
  go_wp2_with fail
  refine (get_at h2 (by simp) HG1.out HG1b.out).mono ?_
  rintro e w3 ⟨rfl, hb3⟩
  replace hb := hb.trans (hb3.mono hb.size)
  replace hcf := kn_keep hb3 hcf
  replace h2 := (Recs.below h2 hb3).more hb3.size
  have k3 := heap_alloc_new w3 (.cells #[.string name, .string row, .int .i64 0, .int .i64 (now + ttl)] 30)
  have hb4 := hb.alloc hb.size (.cells #[.string name, .string row, .int .i64 0, .int .i64 (now + ttl)] 30)
  replace hcf := kn_keep (Below.new_ w3 (.cells #[.string name, .string row, .int .i64 0, .int .i64 (now + ttl)] 30)) hcf
  replace h2 := (Recs.below h2 (Below.new_ w3 (.cells #[.string name, .string row, .int .i64 0, .int .i64 (now + ttl)] 30))).more (Below.new_ w3 (.cells #[.string name, .string row, .int .i64 0, .int .i64 (now + ttl)] 30)).size
  clear hb3 hb
  go_wp2_with fail
  refine (get_at h2 (by simp) HG2.out HG2b.out).mono ?_
  rintro e w5 ⟨rfl, hb5⟩
  have hb := hb4.trans (hb5.mono hb4.size)
  replace hcf := kn_keep (Below.new_ w5 (.cells #[.string zeroKn.1, .string zeroKn.2.1, .int .i64 zeroKn.2.2.1, .int .i64 zeroKn.2.2.2] 30)) (kn_keep hb5 hcf)
  replace k3 := kn_keep (Below.new_ w5 (.cells #[.string zeroKn.1, .string zeroKn.2.1, .int .i64 zeroKn.2.2.1, .int .i64 zeroKn.2.2.2] 30)) (kn_keep hb5 k3)
  replace h2 := (Recs.below h2 (hb5.trans ((Below.new_ w5 (.cells #[.string zeroKn.1, .string zeroKn.2.1, .int .i64 zeroKn.2.2.1, .int .i64 zeroKn.2.2.2] 30)).mono hb5.size))).more (hb5.trans ((Below.new_ w5 (.cells #[.string zeroKn.1, .string zeroKn.2.1, .int .i64 zeroKn.2.2.1, .int .i64 zeroKn.2.2.2] 30)).mono hb5.size)).size
  have hb6 := hb.alloc hb.size (.cells #[.string zeroKn.1, .string zeroKn.2.1, .int .i64 zeroKn.2.2.1, .int .i64 zeroKn.2.2.2] 30)
  obtain ⟨z0, z1, z2, z3⟩ := kn_cells (x := (name, row, 0, now + ttl)) k3
  dsimp only at z0 z1 z2 z3
  obtain ⟨y0, y1, y2, y3, y4, y5, y6, y7, y8⟩ := cf_cells (x := (0, 0, 0, 0, 0, 0, ttl, neg, 0)) hcf
  dsimp only at y0 y1 y2 y3 y4 y5 y6 y7 y8
  clear hb4 hb5 hb hcf k3
  go_wp2_with fail
  refine (entry_at (cf := (0, 0, 0, 0, 0, 0, ttl, neg, 0)) HE2.out).mono ?_
  rintro e w7 ⟨rfl, hb7⟩
  have hb := hb6.trans (hb7.mono hb6.size)
  replace h2 := (Recs.below h2 (hb7.trans ((Below.new_ w7 (.cells #[.string name, .string again, .int .i64 0, .int .i64 (now + 1 + ttl)] 30)).mono hb7.size))).more (hb7.trans ((Below.new_ w7 (.cells #[.string name, .string again, .int .i64 0, .int .i64 (now + 1 + ttl)] 30)).mono hb7.size)).size
  have hb8 := hb.alloc hb.size (.cells #[.string name, .string again, .int .i64 0, .int .i64 (now + 1 + ttl)] 30)
  clear hb6 hb7 hb z0 z1 z2 z3 y0 y1 y2 y3 y4 y5 y6 y7 y8
  go_wp2_with fail
  refine (put_at h2 ((Kns.new1 w7 _ rfl (name, again, 0, now + 1 + ttl) 30).more (by simp)) (by simp) (by omega) HP2.out rfl).mono ?_
  rintro e w9 ⟨A9, c9, rfl, h9, hb9⟩
  have hb := hb8.trans (hb9.mono hb8.size)
  clear hb8 hb9 h2
  go_wp2_with fail
  refine (get_at h9 (by simp) HG3.out HG3b.out).mono ?_
  rintro e w10 ⟨rfl, hb10⟩
  replace hb := hb.trans (hb10.mono hb.size)
  have hb11 := hb.alloc hb.size (.cells #[.string name, .string again, .int .i64 0, .int .i64 (now + 1 + ttl)] 30)
  clear hb10 hb
  go_wp2_with fail
  refine (wakes11_any _).mono ?_
  rintro e w19 ⟨rfl, hb19⟩
  go_wp2_with fail
  go_ret
  exact ⟨rfl, hb11.trans (hb19.mono hb11.size)⟩
set_option maxRecDepth 100000 in
set_option maxHeartbeats 16000000 in
theorem CacheLearns_bad (ttl neg now er : Int) (name row : ByteArray) (again : ByteArray) (w : World) (h1 : 1 ≤ ttl) (h2 : 1 ≤ neg) (h3 : ttl ≤ 1000) (h4 : neg ≤ 1000) (h5 : 0 ≤ now) (h6 : now ≤ 1048576) (he : er ≠ 0) (hs : decide (2000 < wrap64 (wrap64 ((name.size : Int) + (row.size : Int)) + (again.size : Int))) = false) :
    Calls Try.prog 5 #[.int .i64 ttl, .int .i64 neg, .int .i64 now, .string name, .string row, .int .i64 er, .string again] w fun e w' => e = .returned (.bool true) ∧ Below w.heap.size w w' := by
  obtain ⟨E1, hE1⟩ : ∃ E1 : Kn, E1 = (name, ⟨#[]⟩, er, now + neg) := ⟨_, rfl⟩
  obtain ⟨E2, hE2⟩ : ∃ E2 : Kn, E2 = (name, again, 0, now + 1 + ttl) := ⟨_, rfl⟩
  have HE1 : Hid (entryK ttl neg name row er now = E1) := (by show _ = _; rw [hE1, entryK, if_neg he, later_is h5 (by omega) (by omega) h4])
  have HE2 : Hid (entryK ttl neg name again 0 (now + 1) = E2) := (by show _ = _; rw [hE2, entryK, if_pos rfl, later_is (by omega) (by omega) (by omega) h3])
  have HP1 : Hid (putK [] [E1] = [E1]) := put_one E1
  have HP2 : Hid (putK [E1] [E2] = [E2]) := put_same _ _ (by rw [hE1, hE2])
  have g1 : getK [E1] name (now + neg - 1) = some E1 := by rw [get_one _ _ _ (by rw [hE1]), fresh_is (by omega) (by omega) (by rw [hE1]; show 0 ≤ now + neg; omega) (by rw [hE1]; show now + neg ≤ _; omega), hE1, if_pos (by simp; omega)]
  have g2 : getK [E1] name (now + neg) = none := by rw [get_one _ _ _ (by rw [hE1]), fresh_is (by omega) (by omega) (by rw [hE1]; show 0 ≤ now + neg; omega) (by rw [hE1]; show now + neg ≤ _; omega), hE1, if_neg (by simp)]
  have g3 : getK [E2] name (now + ttl) = some E2 := by rw [get_one _ _ _ (by rw [hE2]), fresh_is (by omega) (by omega) (by rw [hE2]; show 0 ≤ now + 1 + ttl; omega) (by rw [hE2]; show now + 1 + ttl ≤ _; omega), hE2, if_pos (by simp; omega)]
  have HG1 : Hid (gotK (getK [E1] name (now + neg - 1)) = E1) := (by show _ = _; rw [g1]; rfl)
  have HG1b : Hid ((getK [E1] name (now + neg - 1)).isSome = true) := (by show _ = _; rw [g1]; rfl)
  have HG2 : Hid (gotK (getK [E1] name (now + neg)) = zeroKn) := (by show _ = _; rw [g2]; rfl)
  have HG2b : Hid ((getK [E1] name (now + neg)).isSome = false) := (by show _ = _; rw [g2]; rfl)
  have HG3 : Hid (gotK (getK [E2] name (now + ttl)) = E2) := (by show _ = _; rw [g3]; rfl)
  have HG3b : Hid ((getK [E2] name (now + ttl)).isSome = true) := (by show _ = _; rw [g3]; rfl)
  subst hE1 hE2
  have hcf0 := heap_alloc_new w (.cells #[.int .i64 0, .int .i64 0, .int .i64 0, .int .i64 0, .int .i64 0, .int .i64 0, .int .i64 ttl, .int .i64 neg, .int .i64 0] 40)
  have hb0 := Below.new_ w (.cells #[.int .i64 0, .int .i64 0, .int .i64 0, .int .i64 0, .int .i64 0, .int .i64 0, .int .i64 ttl, .int .i64 neg, .int .i64 0] 40)
  have d1 : decide (min ttl neg < 1) = false := by simp; omega
  have d2 : decide (1000 < max ttl neg) = false := by simp; omega
  have d3 : decide (now < 0) = false := by simp; omega
  have d4 : decide (1048576 < now) = false := by simp; omega
  have e1 : (er == 0) = false := by simpa using he
  have e2 : (er != 0) = true := by simp [bne, e1]
  clear g1 g2 g3 he
  go_enter Try.func5, Try.ntmps5
  go_wp2_with fail
  refine (entry_at (cf := (0, 0, 0, 0, 0, 0, ttl, neg, 0)) HE1.out).mono ?_
  rintro e w1 ⟨rfl, hb1⟩
  have hb := hb0.trans (hb1.mono hb0.size)
  have hcf := kn_keep hb1 hcf0
  clear hb1 hb0 hcf0
  have hb2 := hb.alloc hb.size (.cells #[.string name, .string ⟨#[]⟩, .int .i64 er, .int .i64 (now + neg)] 30)
  replace hcf := kn_keep (Below.new_ w1 (.cells #[.string name, .string ⟨#[]⟩, .int .i64 er, .int .i64 (now + neg)] 30)) hcf
  go_wp2_with fail
  refine (put_at (Recs.nil_ _ _ _) ((Kns.new1 w1 _ rfl (name, ⟨#[]⟩, er, now + neg) 30).more (by simp)) (by omega) (by omega) HP1.out rfl).mono ?_
  rintro e w2 ⟨A2, c2, rfl, h2, hb3⟩
  replace hb := hb2.trans (hb3.mono hb2.size)
  replace hcf := kn_keep hb3 hcf
  clear hb2 hb3
  go_wp2_with fail
  refine (get_at h2 (by simp) HG1.out HG1b.out).mono ?_
  rintro e w3 ⟨rfl, hb3⟩
  replace hb := hb.trans (hb3.mono hb.size)
  replace hcf := kn_keep hb3 hcf
  replace h2 := (Recs.below h2 hb3).more hb3.size
  have k3 := heap_alloc_new w3 (.cells #[.string name, .string ⟨#[]⟩, .int .i64 er, .int .i64 (now + neg)] 30)
  have hb4 := hb.alloc hb.size (.cells #[.string name, .string ⟨#[]⟩, .int .i64 er, .int .i64 (now + neg)] 30)
  replace hcf := kn_keep (Below.new_ w3 (.cells #[.string name, .string ⟨#[]⟩, .int .i64 er, .int .i64 (now + neg)] 30)) hcf
  replace h2 := (Recs.below h2 (Below.new_ w3 (.cells #[.string name, .string ⟨#[]⟩, .int .i64 er, .int .i64 (now + neg)] 30))).more (Below.new_ w3 (.cells #[.string name, .string ⟨#[]⟩, .int .i64 er, .int .i64 (now + neg)] 30)).size
  clear hb3 hb
  go_wp2_with fail
  refine (get_at h2 (by simp) HG2.out HG2b.out).mono ?_
  rintro e w5 ⟨rfl, hb5⟩
  have hb := hb4.trans (hb5.mono hb4.size)
  replace hcf := kn_keep (Below.new_ w5 (.cells #[.string zeroKn.1, .string zeroKn.2.1, .int .i64 zeroKn.2.2.1, .int .i64 zeroKn.2.2.2] 30)) (kn_keep hb5 hcf)
  replace k3 := kn_keep (Below.new_ w5 (.cells #[.string zeroKn.1, .string zeroKn.2.1, .int .i64 zeroKn.2.2.1, .int .i64 zeroKn.2.2.2] 30)) (kn_keep hb5 k3)
  replace h2 := (Recs.below h2 (hb5.trans ((Below.new_ w5 (.cells #[.string zeroKn.1, .string zeroKn.2.1, .int .i64 zeroKn.2.2.1, .int .i64 zeroKn.2.2.2] 30)).mono hb5.size))).more (hb5.trans ((Below.new_ w5 (.cells #[.string zeroKn.1, .string zeroKn.2.1, .int .i64 zeroKn.2.2.1, .int .i64 zeroKn.2.2.2] 30)).mono hb5.size)).size
  have hb6 := hb.alloc hb.size (.cells #[.string zeroKn.1, .string zeroKn.2.1, .int .i64 zeroKn.2.2.1, .int .i64 zeroKn.2.2.2] 30)
  obtain ⟨z0, z1, z2, z3⟩ := kn_cells (x := (name, ⟨#[]⟩, er, now + neg)) k3
  dsimp only at z0 z1 z2 z3
  obtain ⟨y0, y1, y2, y3, y4, y5, y6, y7, y8⟩ := cf_cells (x := (0, 0, 0, 0, 0, 0, ttl, neg, 0)) hcf
  dsimp only at y0 y1 y2 y3 y4 y5 y6 y7 y8
  clear hb4 hb5 hb hcf k3
  go_wp2_with fail
  refine (entry_at (cf := (0, 0, 0, 0, 0, 0, ttl, neg, 0)) HE2.out).mono ?_
  rintro e w7 ⟨rfl, hb7⟩
  have hb := hb6.trans (hb7.mono hb6.size)
  replace h2 := (Recs.below h2 (hb7.trans ((Below.new_ w7 (.cells #[.string name, .string again, .int .i64 0, .int .i64 (now + 1 + ttl)] 30)).mono hb7.size))).more (hb7.trans ((Below.new_ w7 (.cells #[.string name, .string again, .int .i64 0, .int .i64 (now + 1 + ttl)] 30)).mono hb7.size)).size
  have hb8 := hb.alloc hb.size (.cells #[.string name, .string again, .int .i64 0, .int .i64 (now + 1 + ttl)] 30)
  clear hb6 hb7 hb z0 z1 z2 z3 y0 y1 y2 y3 y4 y5 y6 y7 y8
  go_wp2_with fail
  refine (put_at h2 ((Kns.new1 w7 _ rfl (name, again, 0, now + 1 + ttl) 30).more (by simp)) (by simp) (by omega) HP2.out rfl).mono ?_
  rintro e w9 ⟨A9, c9, rfl, h9, hb9⟩
  have hb := hb8.trans (hb9.mono hb8.size)
  clear hb8 hb9 h2
  go_wp2_with fail
  refine (get_at h9 (by simp) HG3.out HG3b.out).mono ?_
  rintro e w10 ⟨rfl, hb10⟩
  replace hb := hb.trans (hb10.mono hb.size)
  have hb11 := hb.alloc hb.size (.cells #[.string name, .string again, .int .i64 0, .int .i64 (now + 1 + ttl)] 30)
  clear hb10 hb
  go_wp2_with fail
  refine (wakes11_any _).mono ?_
  rintro e w19 ⟨rfl, hb19⟩
  go_wp2_with fail
  go_ret
  exact ⟨rfl, hb11.trans (hb19.mono hb11.size)⟩
set_option maxRecDepth 100000 in
set_option maxHeartbeats 16000000 in
theorem CacheLearns_walk (ttl neg now : Int) (name row : ByteArray) (er : Int) (again : ByteArray) (w : World) :
    Calls Try.prog 5 #[.int .i64 ttl, .int .i64 neg, .int .i64 now, .string name, .string row, .int .i64 er, .string again] w fun e w' => e = .returned (.bool true) ∧ Below w.heap.size w w' := by
  cases d1 : decide (min ttl neg < 1)
  · cases d2 : decide (1000 < max ttl neg)
    · cases d3 : decide (now < 0)
      · cases d4 : decide (1048576 < now)
        · cases d5 : decide (2000 < wrap64 (wrap64 ((name.size : Int) + (row.size : Int)) + (again.size : Int)))
          · simp only [decide_eq_false_iff_not] at d1 d2 d3 d4
            by_cases he : er = 0
            · subst he
              exact CacheLearns_ok ttl neg now name row again w (by omega) (by omega) (by omega) (by omega) (by omega) (by omega) d5
            · exact CacheLearns_bad ttl neg now er name row again w (by omega) (by omega) (by omega) (by omega) (by omega) (by omega) he d5
          · go_enter Try.func5, Try.ntmps5
            go_wp2_with fail
            refine (wakes11_any _).mono ?_
            rintro e w19 ⟨rfl, hb19⟩
            go_wp2_with fail
            go_ret
            exact ⟨rfl, hb19⟩
        · go_enter Try.func5, Try.ntmps5
          go_wp2_with fail
          refine (wakes11_any _).mono ?_
          rintro e w19 ⟨rfl, hb19⟩
          go_wp2_with fail
          go_ret
          exact ⟨rfl, hb19⟩
      · go_enter Try.func5, Try.ntmps5
        go_wp2_with fail
        refine (wakes11_any _).mono ?_
        rintro e w19 ⟨rfl, hb19⟩
        go_wp2_with fail
        go_ret
        exact ⟨rfl, hb19⟩
    · go_enter Try.func5, Try.ntmps5
      go_wp2_with fail
      refine (wakes11_any _).mono ?_
      rintro e w19 ⟨rfl, hb19⟩
      go_wp2_with fail
      go_ret
      exact ⟨rfl, hb19⟩
  · go_enter Try.func5, Try.ntmps5
    go_wp2_with fail
    refine (wakes11_any _).mono ?_
    rintro e w19 ⟨rfl, hb19⟩
    go_wp2_with fail
    go_ret
    exact ⟨rfl, hb19⟩
end Go.Proofs.Ytpdbibejocajhaa
