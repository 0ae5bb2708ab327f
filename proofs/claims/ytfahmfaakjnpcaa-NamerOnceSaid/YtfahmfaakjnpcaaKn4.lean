/-
  What slices.Insert of one kept name computes, in a row of the caller's own. Conditions: the row is the caller's own, of at most 1000; the place is in it or at its end.
-/
import Derived.Test.YtfahmfaakjnpcaaKn3
import Derived.Test.YtfahmfaakjnpcaaCopyK
import Derived.Lib.Walk
namespace Go.Proofs.Ytfahmfaakjnpcaa
set_option linter.unusedVariables false
set_option linter.unusedSimpArgs false
open Go.RowKit Go.Shelf

theorem splice_ins {α : Type} (P M R X : List α) (h : X.length ≤ R.length) : splice (splice (P ++ (M ++ R)) (P.length + X.length) M) P.length X = P ++ (X ++ (M ++ R.drop X.length)) := by
  have e1 : splice (P ++ (M ++ R)) (P.length + X.length) M = P ++ ((M ++ R).take X.length ++ (M ++ R.drop X.length)) := by
    unfold splice
    rw [List.take_append, List.take_of_length_le (by omega), show P.length + X.length - P.length = X.length by omega, List.append_assoc]
    congr 2
    rw [List.drop_append, List.drop_eq_nil_of_le (by omega), List.nil_append, show P.length + X.length + M.length - P.length = M.length + X.length by omega, List.drop_append, List.drop_eq_nil_of_le (by omega), List.nil_append, show M.length + X.length - M.length = X.length by omega]
  rw [e1]
  unfold splice
  rw [List.take_left', List.drop_append, List.drop_eq_nil_of_le (by omega), List.nil_append, show P.length + X.length - P.length = X.length by omega, List.drop_append, List.drop_eq_nil_of_le (by rw [List.length_take]; omega), List.nil_append, List.length_take, Nat.min_eq_left (by simp; omega), Nat.sub_self, List.drop_zero]
  rfl
theorem splice_fill {α : Type} (P Z X M : List α) (h : X.length + M.length ≤ Z.length) : splice (splice (P ++ Z) P.length X) (P.length + X.length) M = P ++ (X ++ (M ++ Z.drop (X.length + M.length))) := by
  have e1 : splice (P ++ Z) P.length X = P ++ (X ++ Z.drop X.length) := by
    unfold splice
    rw [List.take_left', List.drop_append, List.drop_eq_nil_of_le (by omega), List.nil_append, show P.length + X.length - P.length = X.length by omega]
    rfl
  rw [e1]
  unfold splice
  rw [List.take_append, List.take_of_length_le (by omega), show P.length + X.length - P.length = X.length by omega, List.take_append, List.take_of_length_le (by omega), Nat.sub_self, List.take_zero, List.append_nil, List.append_assoc]
  congr 3
  rw [List.drop_append, List.drop_eq_nil_of_le (by omega), List.nil_append, show P.length + X.length + M.length - P.length = X.length + M.length by omega, List.drop_append, List.drop_eq_nil_of_le (by omega), List.nil_append, show X.length + M.length - X.length = M.length by omega, List.drop_drop]
theorem shape_row {w : World} {g : Nat} {cs : Array Value} {t : TypeId} (h : w.heap[g]? = some (.cells cs t (0, 0))) : w.shape? g = some (t, cs.size) := by
  unfold World.shape?
  rw [h]
theorem frozen_row {w : World} {g : Nat} {cs : Array Value} {t : TypeId} (h : w.heap[g]? = some (.cells cs t (0, 0))) (o : Nat) : w.frozen? ⟨g, o, none⟩ = false := by simp [World.frozen?, h]
theorem add_plain (g o j : Nat) : (⟨g, o, none⟩ : Addr).add j = ⟨g, o + j, none⟩ := by unfold Addr.add; split <;> simp_all
theorem arr_eq (P : List Value) (a b : Array Value) : P.toArray ++ a ++ b = (P ++ (a ++ b).toList).toArray := by
  apply Array.toList_inj.1
  simp
theorem flat_ins (l : List Kn) (i : Nat) (x : Kn) : (l.take i ++ x :: l.drop i).flatMap encKn = (l.take i).flatMap encKn ++ (encKn x ++ (l.drop i).flatMap encKn) := by
  rw [List.flatMap_append, List.flatMap_cons]
theorem flat_split (l : List Kn) (i : Nat) : l.flatMap encKn = (l.take i).flatMap encKn ++ (l.drop i).flatMap encKn := by
  rw [← List.flatMap_append, List.take_append_drop]
set_option maxHeartbeats 2000000 in
set_option maxRecDepth 100000 in
theorem InsKn_end (base : Nat) (A : Option Addr) (n c gv : Nat) (l : List Kn) (x : Kn) (w : World) (ho : OwKn w base A n c l) (hv : w.heap[gv]? = some (.cells #[.string x.1, .string x.2.1, .int .i64 x.2.2.1, .int .i64 x.2.2.2] 110 (0, 0))) (hn : n ≤ 1000) (hbase : base ≤ w.heap.size) :
    Calls Try.prog 66 #[.slice A n c, .int .i64 n, .slice (some ⟨gv, 0, none⟩) 1 1] w fun e w' => ∃ A' c', e = .returned (.slice A' (n + 1) c') ∧ OwKn w' base A' (n + 1) c' (l ++ [x]) ∧ w.grownBy w' (rowOf A c) := by
  have hnc := ho.2.2.1
  have hcm := ho.2.2.2.1
  unfold maxLen at hcm
  have hA : A = none → n = 0 := by
    rintro rfl
    rcases ho.2.2.2.2 with h | ⟨g, cur, h, _⟩
    · omega
    · cases h
  have hs : Kns w w.heap.size (some ⟨gv, 0, none⟩) 1 [x] := by
    refine ⟨rfl, rfl, fun _ _ => ⟨gv, 0, rfl, (Array.getElem?_eq_some_iff.1 hv).1, fun j u hu => ?_⟩⟩
    rw [cell_of_row w gv (0 + j) _ _ (0, 0) hv]
    simpa [encKn] using hu
  rcases A with _ | a
  · obtain rfl := hA rfl
    go_enter Try.func66, Try.ntmps66
    go_wp2_with (at_builtin; refine wpList_appKn _ rfl (.tmp 23) (.tmp 24) rfl base _ _ _ _ rfl ho _ _ _ _ [x] rfl hs (by omega) hbase ?_; intro A2 c2 w2 ho2 hg2 hr2)
    go_ret
    exact ⟨A2, c2, rfl, ho2, hg2⟩
  · rcases Nat.lt_or_ge n c with hlt | hge
    · have hb2 : ¬ c = n := by omega
      go_enter Try.func66, Try.ntmps66
      go_wp2_with (at_builtin; refine wpList_appKn _ rfl (.tmp 23) (.tmp 24) rfl base _ _ _ _ rfl ho _ _ _ _ [x] rfl hs (by omega) hbase ?_; intro A2 c2 w2 ho2 hg2 hr2)
      go_ret
      exact ⟨A2, c2, rfl, ho2, hg2⟩
    · obtain rfl : c = n := by omega
      go_enter Try.func66, Try.ntmps66
      go_wp2_with (at_builtin; refine wpList_appKn _ rfl (.tmp 23) (.tmp 24) rfl base _ _ _ _ rfl ho _ _ _ _ [x] rfl hs (by omega) hbase ?_; intro A2 c2 w2 ho2 hg2 hr2)
      go_ret
      exact ⟨A2, c2, rfl, ho2, hg2⟩
set_option maxHeartbeats 4000000 in
set_option maxRecDepth 100000 in
theorem InsKn_room (base g n c i gv : Nat) (l : List Kn) (x : Kn) (w : World) (cur : Array Value) (hh : w.heap[g]? = some (.cells cur 110 (0, 0))) (hsz : cur.size = c * 4) (htk : cur.toList.take (n * 4) = l.flatMap encKn) (hln : l.length = n)
    (hbg : base ≤ g) (hc : n < c) (hcm : c ≤ 9223372036854775807) (hi : i < n) (hv : w.heap[gv]? = some (.cells #[.string x.1, .string x.2.1, .int .i64 x.2.2.1, .int .i64 x.2.2.2] 110 (0, 0))) (hne : gv ≠ g) (hn : n ≤ 1000) :
    Calls Try.prog 66 #[.slice (some ⟨g, 0, none⟩) n c, .int .i64 i, .slice (some ⟨gv, 0, none⟩) 1 1] w fun e w' => e = .returned (.slice (some ⟨g, 0, none⟩) (n + 1) c) ∧ OwKn w' base (some ⟨g, 0, none⟩) (n + 1) c (l.take i ++ x :: l.drop i) ∧ w.grownBy w' (some g) := by
  have hov : ∀ lb cb, (callFunc 75 #[.slice (some ⟨gv, 0, none⟩) 1 1, .slice (some ⟨g, (i + 1) * 4, none⟩) lb cb]).run Try.prog w = .ok (.value (.bool false)) w := fun lb cb => by
    rw [run_callFunc_extern Try.func75 (by kernel_rfl) (by kernel_rfl) (by kernel_rfl) (e := Extern.SlicesOverlaps.overlaps #[26, 26] #[4]) (by kernel_rfl),
      Lib.run_overlaps_apart w 26 4 110 Try.underlying26 4 (fun w => by kernel_rfl) ⟨gv, 0, none⟩ ⟨g, (i + 1) * 4, none⟩ 1 1 lb cb hne 110 110 4 cur.size (shape_row hv) (shape_row hh) (by omega) (frozen_row hv _) (frozen_row hv _)]
    rfl
  obtain ⟨M, hM⟩ : ∃ M, M = (l.drop i).flatMap encKn := ⟨_, rfl⟩
  obtain ⟨P, hP⟩ : ∃ P, P = (l.take i).flatMap encKn := ⟨_, rfl⟩
  have hPl : P.length = i * 4 := by rw [hP, flatMap_len encKn_len, List.length_take]; congr 1; omega
  have hMl : M.length = (n - i) * 4 := by rw [hM, flatMap_len encKn_len, List.length_drop, hln]
  have hcur : cur.toList = P ++ (M ++ cur.toList.drop (n * 4)) := by
    rw [← List.append_assoc, hP, hM, ← flat_split, ← htk, List.take_append_drop]
  have hRl : (cur.toList.drop (n * 4)).length = c * 4 - n * 4 := by rw [List.length_drop, Array.length_toList, hsz]
  have hfin : (splice (splice cur.toList ((i + 1) * 4) M) (i * 4) (encKn x)).take ((n + 1) * 4) = (l.take i ++ x :: l.drop i).flatMap encKn := by
    have := splice_ins P M (cur.toList.drop (n * 4)) (encKn x) (by rw [hRl, encKn_len]; omega)
    rw [hPl, encKn_len, ← hcur, show i * 4 + 4 = (i + 1) * 4 by omega] at this
    rw [this, flat_ins, ← hP, ← hM, ← List.append_assoc, ← List.append_assoc, List.take_left' (by rw [List.length_append, List.length_append, hPl, hMl, encKn_len]; omega), List.append_assoc]
  have hsrcM : Hid (∀ j v, M[j]? = some v → w.cell? ((⟨g, i * 4, none⟩ : Addr).add j) = some v) := by
    intro j v hj
    rw [add_plain, cell_of_row w g _ cur _ (0, 0) hh, ← Array.getElem?_toList, hcur, List.getElem?_append_right (by omega), hPl, Nat.add_sub_cancel_left, List.getElem?_append_left (List.getElem?_eq_some_iff.1 hj).1]
    exact hj
  have s1 : Hid (M.length = Nat.min (n + 1 - i) (n - i) * 4) := (by show _ = _; rw [hMl]; congr 1; simp only [Nat.min_def]; split <;> omega)
  have s2 : Hid (∀ v ∈ M, v.oneCell' = true) := by intro v hv; rw [hM] at hv; exact encKn_oneCell _ v hv
  have s3 : Hid ((i + 1) * 4 + M.length ≤ cur.size) := (by show _ ≤ _; rw [hMl, hsz]; omega)
  have HFIN := Lib.hid hfin
  have HH := Lib.hid hh
  have HV := Lib.hid hv
  have HLN := Lib.hid hln
  have HSZ := Lib.hid hsz
  have hb1 : ¬ c = i + 1 := by omega
  have hb2 : ¬ c = i := by omega
  have hne2 : ¬ (i : Int) = (n : Int) := by omega
  have hb0 : ((i : Int) == (n : Int)) = false := by simp; omega
  have hb4 : decide ((c : Int) < (n : Int) + 1) = false := by simp; omega
  have hw1 : IntKind.i64.wrap ((i : Int) + 1) = (i : Int) + 1 := IntWalk.i64_in _ (by omega)
  have hb5 : (0 : Int) ≤ (i : Int) + 1 := by omega
  have htn : ((i : Int) + 1).toNat = i + 1 := by omega
  have hb3 : (i : Int) ≤ (n : Int) + 1 := by omega
  have hb6 : (i : Int) + 1 ≤ (n : Int) + 1 := by omega
  have hb7 : i ≤ n + 1 := by omega
  have hb8 : i + 1 ≤ n + 1 := by omega
  have hinf : (Try.prog.info? 110).map (·.size) = some 4 := by kernel_rfl
  have HI := Lib.hid hinf
  clear hh hv hsz htk hcur hP hM hPl hMl hRl hfin hinf hln
  go_enter Try.func66, Try.ntmps66
  go_wp2_with (simp only [hov])
  go_region_law (refine step_copyK rfl (.tmp 73) (.tmp 76) 26 26 rfl 110 4 Try.underlying26 HI.out g ((i + 1) * 4) (n - i) (c - (i + 1)) (n + 1 - i) (c - i) ⟨g, i * 4, none⟩ (by simp [Act.eval, Act.put]) (by simp [Act.eval, Act.put]) cur 110 HH.out M s1.out hsrcM.out s3.out s2.out ?_; intro w1 HH1 hg1 hz1)
  have hv1 : w1.heap[gv]? = some (.cells #[.string x.1, .string x.2.1, .int .i64 x.2.2.1, .int .i64 x.2.2.2] 110 (0, 0)) := (hg1.block gv (Array.getElem?_eq_some_iff.1 HV.out).1 (fun e => hne (by injection e))).trans HV.out
  have hsrcX : Hid (∀ j v, (encKn x)[j]? = some v → w1.cell? ((⟨gv, 0, none⟩ : Addr).add j) = some v) := by
    intro j v hj
    rw [add_plain, cell_of_row w1 gv _ _ _ (0, 0) hv1]
    simpa [encKn] using hj
  have s4 : Hid ((encKn x).length = Nat.min 1 (n + 1 - i) * 4) := (by show _ = _; rw [encKn_len]; simp only [Nat.min_def]; split <;> omega)
  have s5 : Hid (i * 4 + (encKn x).length ≤ (splice cur.toList ((i + 1) * 4) M).toArray.size) := (by show _ ≤ _; rw [List.size_toArray, length_splice _ _ _ (by have := s3.out; simpa using this), encKn_len, Array.length_toList, HSZ.out]; omega)
  clear hv1
  go_wp2_with (refine wpList_copyK rfl (.tmp 80) (.tmp 81) 26 26 rfl 110 4 Try.underlying26 HI.out g (i * 4) (n + 1 - i) (c - i) 1 1 ⟨gv, 0, none⟩ (by rfl) (by rfl) _ 110 HH1.out (encKn x) s4.out hsrcX.out s5.out (encKn_one x) ?_; intro w2 HH2 hg2 hz2)
  go_ret
  refine ⟨rfl, ⟨by rw [List.length_append, List.length_cons, List.length_take, List.length_drop, HLN.out]; omega, ?_⟩, ?_⟩
  · refine ⟨by rw [flatMap_len encKn_len, List.length_append, List.length_cons, List.length_take, List.length_drop, HLN.out]; omega, by omega, by unfold maxLen; omega, .inr ⟨g, _, rfl, hbg, HH2.out, ?_, ?_⟩⟩
    · rw [List.size_toArray, length_splice, length_splice, Array.length_toList, HSZ.out]
      · have := s3.out; simpa using this
      · have := s5.out; simpa using this
    · have := HFIN.out
      simpa using this
  · have : w.grownBy w1 (some g) := ⟨hg1.os, hg1.tape, hg1.output, hg1.size, hg1.block⟩
    exact grown_trans this hg2
set_option maxHeartbeats 4000000 in
set_option maxRecDepth 100000 in
theorem InsKn_grow (base g n c i gv : Nat) (l : List Kn) (x : Kn) (w : World) (cur : Array Value) (hh : w.heap[g]? = some (.cells cur 110 (0, 0))) (hsz : cur.size = c * 4) (htk : cur.toList.take (n * 4) = l.flatMap encKn) (hln : l.length = n)
    (hbase : base ≤ w.heap.size) (hc : c = n) (hi : i < n) (hv : w.heap[gv]? = some (.cells #[.string x.1, .string x.2.1, .int .i64 x.2.2.1, .int .i64 x.2.2.2] 110 (0, 0))) (hn : n ≤ 1000) :
    Calls Try.prog 66 #[.slice (some ⟨g, 0, none⟩) n c, .int .i64 i, .slice (some ⟨gv, 0, none⟩) 1 1] w fun e w' => ∃ A' c', e = .returned (.slice A' (n + 1) c') ∧ OwKn w' base A' (n + 1) c' (l.take i ++ x :: l.drop i) ∧ w.grownBy w' none := by
  obtain ⟨i0, hi0, hz0, hz1, hz2⟩ := info_parts infoKn
  obtain ⟨M, hM⟩ : ∃ M, M = (l.drop i).flatMap encKn := ⟨_, rfl⟩
  obtain ⟨P, hP⟩ : ∃ P, P = (l.take i).flatMap encKn := ⟨_, rfl⟩
  have hPl : P.length = i * 4 := by rw [hP, flatMap_len encKn_len, List.length_take]; congr 1; omega
  have hMl : M.length = (n - i) * 4 := by rw [hM, flatMap_len encKn_len, List.length_drop, hln]
  have hcur : cur.toList.take (n * 4) = P ++ M := by rw [hP, hM, ← flat_split, ← htk]
  have lg : g < w.heap.size := (Array.getElem?_eq_some_iff.1 hh).1
  have lgv : gv < w.heap.size := (Array.getElem?_eq_some_iff.1 hv).1
  have hcell : ∀ j v, j < n * 4 → (P ++ M)[j]? = some v → w.cell? ⟨g, j, none⟩ = some v := by
    intro j v hj hv
    rw [cell_of_row w g _ cur _ (0, 0) hh, ← Array.getElem?_toList, ← hv, ← hcur, List.getElem?_take, if_pos hj]
  have hold : (Builtin.firstCells i0.size i (.slice (some ⟨g, 0, none⟩) i c)).run Try.prog w.drew = .ok P.toArray w.drew := by
    rw [hz1]
    exact run_firstCells_some w.drew 4 i ⟨g, 0, none⟩ i c P (by rw [hPl]) (fun j v hj => by
      rw [add_plain, Nat.zero_add]
      have hjl := (List.getElem?_eq_some_iff.1 hj).1
      exact hcell j v (by omega) (by rw [List.getElem?_append_left hjl]; exact hj))
  have hkk : (n : Int) + 1 - (i : Int) = ((n + 1 - i : Nat) : Int) := by omega
  obtain ⟨G, hG⟩ : ∃ G, G = grownCap w (n + 1) c 110 := ⟨_, rfl⟩
  obtain ⟨Z, hZ⟩ : ∃ Z : List Value, Z = (Builtin.zeroCells (Value.agg #[.string ⟨#[]⟩, .string ⟨#[]⟩, .int .i64 0, .int .i64 0]).cells (n + 1 - i) ++ Builtin.zeroCells (Value.agg #[.string ⟨#[]⟩, .string ⟨#[]⟩, .int .i64 0, .int .i64 0]).cells (G - (n + 1))).toList := ⟨_, rfl⟩
  have hGn : n + 1 ≤ G := by rw [hG]; exact grownCap_ge w _ _ _
  have hZl : Z.length = (G - i) * 4 := by
    rw [hZ]
    simp [Builtin.zeroCells, Value.cells]
    omega
  have hrz : ∀ ty, (Builtin.append_ #[26, 3] ty #[.slice (some ⟨g, 0, none⟩) i c, .int .i64 ((n : Int) + 1 - (i : Int))]).run Try.prog w =
      .ok (.slice (some ⟨w.heap.size, 0, none⟩) (n + 1) G) (w.drew.alloc (.cells (P ++ Z).toArray 110)) := fun ty => by
    have h := Lib.run_append_grow_zeros w 26 3 ty 110 i0 _ .i64 .i64 Try.underlying26 Try.underlying3 hi0 hz0 (some ⟨g, 0, none⟩) i c P hold (n + 1 - i) (by omega) (by omega) (by omega) (by omega) (by rw [hz2]; omega) (by rw [hz2]; exact growslice_fits (by omega) (by omega))
    rw [show i + (n + 1 - i) = n + 1 by omega, ← hG] at h
    rw [hkk, h, hZ, arr_eq]
  have hG63 : G ≤ 9223372036854775807 := by
    have := grownCap_le_maxLen w (n + 1) c 110 (by unfold maxLen; omega)
    rw [← hG] at this
    unfold maxLen at this
    omega
  have hN : (w.drew.alloc (.cells (P ++ Z).toArray 110)).heap[w.heap.size]? = some (.cells (P ++ Z).toArray 110 (0, 0)) := heap_alloc_new w.drew _
  obtain ⟨W1, hW1⟩ : ∃ W1, W1 = w.drew.alloc (.cells (P ++ Z).toArray 110) := ⟨_, rfl⟩
  rw [← hW1] at hN
  have hgW : w.grownBy W1 none := by rw [hW1]; exact ⟨rfl, rfl, rfl, by simp, fun k hk _ => Below.heap_alloc w.drew _ k hk⟩
  have hX : Hid (∀ j v, (encKn x)[j]? = some v → W1.cell? ((⟨gv, 0, none⟩ : Addr).add j) = some v) := by
    intro j v hj
    rw [add_plain, cell_of_row W1 gv _ _ _ (0, 0) ((hgW.block gv lgv (by simp)).trans hv)]
    simpa [encKn] using hj
  have hM1 : Hid (∀ j v, M[j]? = some v → W1.cell? ⟨g, i * 4 + j, none⟩ = some v) := by
    intro j v hj
    have hjl := (List.getElem?_eq_some_iff.1 hj).1
    rw [World.cell?_of_block (w := w) (a := ⟨g, i * 4 + j, none⟩) (hgW.block g lg (by simp))]
    exact hcell _ v (by omega) (by rw [List.getElem?_append_right (by omega), hPl, Nat.add_sub_cancel_left]; exact hj)
  have s1 : Hid ((encKn x).length = Nat.min 1 (n + 1 - i) * 4) := (by show _ = _; rw [encKn_len]; simp only [Nat.min_def]; split <;> omega)
  have s2 : Hid (i * 4 + (encKn x).length ≤ (P ++ Z).toArray.size) := (by show _ ≤ _; rw [encKn_len, List.size_toArray, List.length_append, hPl, hZl]; omega)
  have s3 : Hid (M.length = Nat.min (n - i) (n - i) * 4) := (by show _ = _; rw [hMl]; congr 1; simp only [Nat.min_def]; split <;> omega)
  have s4 : Hid (∀ v ∈ M, v.oneCell' = true) := by intro v hv; rw [hM] at hv; exact encKn_oneCell _ v hv
  have s5 : Hid ((i + 1) * 4 + M.length ≤ (splice (P ++ Z) (i * 4) (encKn x)).toArray.size) := (by show _ ≤ _; rw [List.size_toArray, length_splice _ _ _ (by have := s2.out; simpa using this), hMl, List.length_append, hPl, hZl]; omega)
  have hfin : Hid ((splice (splice (P ++ Z) (i * 4) (encKn x)) ((i + 1) * 4) M).take ((n + 1) * 4) = (l.take i ++ x :: l.drop i).flatMap encKn) := by
    show _ = _
    have := splice_fill P Z (encKn x) M (by rw [encKn_len, hMl, hZl]; omega)
    rw [hPl, encKn_len, show i * 4 + 4 = (i + 1) * 4 by omega] at this
    rw [this, flat_ins, ← hP, ← hM, ← List.append_assoc, ← List.append_assoc, List.take_left' (by rw [List.length_append, List.length_append, hPl, hMl, encKn_len]; omega), List.append_assoc]
  have hlen5 : Hid ((splice (splice (P ++ Z) (i * 4) (encKn x)) ((i + 1) * 4) M).length = G * 4) := by
    show _ = _
    rw [length_splice _ _ _ (by have := s5.out; simpa using this), length_splice _ _ _ (by have := s2.out; simpa using this), List.length_append, hPl, hZl]
    omega
  have hinf : (Try.prog.info? 110).map (·.size) = some 4 := by kernel_rfl
  have HI := Lib.hid hinf
  have HN := Lib.hid hN
  have HLN := Lib.hid hln
  have HC := Lib.hid hc
  have hc63 : c ≤ 9223372036854775807 := by omega
  have hb0 : ((i : Int) == (n : Int)) = false := by simp; omega
  have hb4 : decide ((c : Int) < (n : Int) + 1) = true := by simp; omega
  have hb2 : ¬ c = i := by omega
  have hb6 : ¬ G = i := by omega
  have hb7 : ¬ G = i + 1 := by omega
  have hic : i ≤ c := by omega
  have hw1 : IntKind.i64.wrap ((i : Int) + 1) = (i : Int) + 1 := IntWalk.i64_in _ (by omega)
  have hb5 : (0 : Int) ≤ (i : Int) + 1 := by omega
  have htn : ((i : Int) + 1).toNat = i + 1 := by omega
  have hb3 : (i : Int) ≤ (n : Int) + 1 := by omega
  have hb8 : (i : Int) + 1 ≤ (n : Int) + 1 := by omega
  have hb9 : i ≤ n + 1 := by omega
  have hb10 : i + 1 ≤ n + 1 := by omega
  rw [← hW1] at hrz
  have hneN : g ≠ w.heap.size := by omega
  have hin : i ≤ n := by omega
  clear hh hsz htk hln hv hM hP hPl hMl hcur hcell hold hkk hG hZ hZl hN hW1 hinf hi0 hz0 hz1 hz2 hc
  go_enter Try.func66, Try.ntmps66
  go_wp2_with (first
    | (at_builtin; refine Lib.wpList_append_run _ rfl (.tmp 34) (.tmp 39) _ _ rfl _ _ rfl rfl _ _ (hrz _) ?_)
    | (refine wpList_copyK rfl (.tmp 43) (.tmp 44) 26 26 rfl 110 4 Try.underlying26 HI.out w.heap.size (i * 4) (n + 1 - i) (G - i) 1 1 ⟨gv, 0, none⟩ (by rfl) (by rfl) _ 110 HN.out (encKn x) s1.out hX.out s2.out (encKn_one x) ?_; intro w2 HH2 hg2 hz2))
  have hM2 : Hid (∀ j v, M[j]? = some v → w2.cell? ((⟨g, i * 4, none⟩ : Addr).add j) = some v) := by
    intro j v hj
    rw [add_plain, World.cell?_of_block (w := W1) (a := ⟨g, i * 4 + j, none⟩) (hg2.block g (Nat.lt_of_lt_of_le lg hgW.size) (fun e => hneN (by injection e)))]
    exact hM1.out j v hj
  go_region_law (refine step_copyK rfl (.tmp 50) (.tmp 53) 26 26 rfl 110 4 Try.underlying26 HI.out w.heap.size ((i + 1) * 4) (n - i) (G - (i + 1)) (n - i) (c - i) ⟨g, i * 4, none⟩ (by simp [Act.eval, Act.put]) (by simp [Act.eval, Act.put]) _ 110 HH2.out M s3.out hM2.out s5.out s4.out ?_; intro w3 HH3 hg3 hz3)
  go_wp2_with fail
  go_ret
  refine ⟨_, _, rfl, ⟨by rw [List.length_append, List.length_cons, List.length_take, List.length_drop, HLN.out]; omega, ?_⟩, ?_⟩
  · refine ⟨by rw [flatMap_len encKn_len, List.length_append, List.length_cons, List.length_take, List.length_drop, HLN.out]; omega, by omega, by unfold maxLen; omega, .inr ⟨w.heap.size, _, rfl, hbase, HH3.out, ?_, ?_⟩⟩
    · have := hlen5.out
      simpa using this
    · have := hfin.out
      simpa using this
  · have h2 : W1.grownBy w2 (some w.heap.size) := hg2
    have h3 : w2.grownBy w3 (some w.heap.size) := ⟨hg3.os, hg3.tape, hg3.output, hg3.size, hg3.block⟩
    exact ⟨h3.os.trans (h2.os.trans hgW.os), h3.tape.trans (h2.tape.trans hgW.tape), h3.output.trans (h2.output.trans hgW.output), Nat.le_trans hgW.size (Nat.le_trans h2.size h3.size), fun k hk hne => (h3.block k (Nat.lt_of_lt_of_le hk (Nat.le_trans hgW.size h2.size)) (by intro e; injection e with e; omega)).trans ((h2.block k (Nat.lt_of_lt_of_le hk hgW.size) (by intro e; injection e with e; omega)).trans (hgW.block k hk hne))⟩
theorem InsKn_any (base : Nat) (A : Option Addr) (n c i gv : Nat) (l : List Kn) (x : Kn) (w : World) (ho : OwKn w base A n c l) (hi : i ≤ n) (hv : w.heap[gv]? = some (.cells #[.string x.1, .string x.2.1, .int .i64 x.2.2.1, .int .i64 x.2.2.2] 110 (0, 0))) (hne : rowOf A c ≠ some gv) (hn : n ≤ 1000) (hbase : base ≤ w.heap.size) :
    Calls Try.prog 66 #[.slice A n c, .int .i64 i, .slice (some ⟨gv, 0, none⟩) 1 1] w fun e w' => ∃ A' c', e = .returned (.slice A' (n + 1) c') ∧ OwKn w' base A' (n + 1) c' (l.take i ++ x :: l.drop i) ∧ w.grownBy w' (rowOf A c) := by
  rcases Nat.lt_or_ge i n with h | h
  · obtain ⟨hl, hxs, hnc, hcm, hrow⟩ := id ho
    unfold maxLen at hcm
    rcases hrow with h0 | ⟨g, cur, rfl, hbg, hh, hsz, htk⟩
    · omega
    · have hr : rowOf (some ⟨g, 0, none⟩) c = some g := by simp [rowOf]; omega
      rcases Nat.lt_or_ge n c with h1 | h1
      · refine (InsKn_room base g n c i gv l x w cur hh hsz htk hl hbg h1 (by omega) h hv (fun e => hne (by rw [hr, e])) hn).mono ?_
        rintro e w' ⟨rfl, ho2, hg⟩
        exact ⟨_, _, rfl, ho2, by rw [hr]; exact hg⟩
      · refine (InsKn_grow base g n c i gv l x w cur hh hsz htk hl hbase (by omega) h hv hn).mono ?_
        rintro e w' ⟨A', c', rfl, ho2, hg⟩
        exact ⟨_, _, rfl, ho2, ⟨hg.os, hg.tape, hg.output, hg.size, fun k hk _ => hg.block k hk (by simp)⟩⟩
  · obtain rfl : i = n := by omega
    refine (InsKn_end base A i c gv l x w ho hv hn hbase).mono ?_
    rintro e w' ⟨A', c', rfl, ho2, hg⟩
    have hl := ho.1
    exact ⟨_, _, rfl, by rw [List.take_of_length_le (by omega), List.drop_eq_nil_of_le (by omega)]; exact ho2, hg⟩
end Go.Proofs.Ytfahmfaakjnpcaa
