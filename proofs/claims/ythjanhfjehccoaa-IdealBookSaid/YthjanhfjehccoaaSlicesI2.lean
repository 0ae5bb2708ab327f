/-
  What slices.Delete (of one element) and slices.Reverse at []int do to a row of the caller's own, each as one contract over the translated program. Conditions: the row is the caller's own.
-/
import Derived.Test.YthjanhfjehccoaaSlicesI
namespace Go.Proofs.Ythjanhfjehccoaa
set_option linter.unusedVariables false
set_option linter.unusedSimpArgs false
open Go.RowKit

theorem delete_row (cur : Array Value) (n c i : Nat) (l : List Int) (hsz : cur.size = c * 1) (htk : cur.toList.take (n * 1) = l.map (Value.int .i64)) (hl : l.length = n) (hn : n ≤ c) (hi : i < n) :
    (setAt (setAt cur i ((l.drop (i + 1)).map (Value.int .i64))) (n - 1) (List.replicate 1 (Value.int .i64 0))).toList.take ((n - 1) * 1) = (l.eraseIdx i).map (Value.int .i64) := by
  apply List.ext_getElem?
  intro j
  rw [List.getElem?_take, List.getElem?_map, List.getElem?_eraseIdx]
  have hcur : ∀ q, q < n → cur[q]? = (l[q]?).map (Value.int .i64) := by
    intro q hq
    have := congrArg (fun x : List Value => x[q]?) htk
    simp only [List.getElem?_take, List.getElem?_map, Nat.mul_one, if_pos hq, Array.getElem?_toList] at this
    exact this
  by_cases hj : j < (n - 1) * 1
  · rw [if_pos hj, Array.getElem?_toList, get_setAt, if_neg (by simp; omega), get_setAt]
    simp only [List.length_map, List.length_drop]
    by_cases hij : i ≤ j
    · rw [if_pos (by omega), if_neg (by omega), List.getElem?_map, List.getElem?_drop, show i + 1 + (j - i) = j + 1 by omega]
    · rw [if_neg (by omega), if_pos (by omega), hcur j (by omega)]
  · rw [if_neg hj]
    by_cases hij : j < i
    · omega
    · rw [if_neg hij, List.getElem?_eq_none (by omega)]
      rfl

set_option maxHeartbeats 2000000 in
set_option maxRecDepth 100000 in
theorem DeleteI_any (base : Nat) (A : Option Addr) (n c i : Nat) (l : List Int) (w : World) (ho : OwI w base 3 A n c l) (hi : i < n) (hn : n ≤ 100000) :
    Calls Try.prog 70 #[.slice A n c, .int .i64 i, .int .i64 ((i : Int) + 1)] w fun e w' => e = .returned (.slice A (n - 1) c) ∧ OwI w' base 3 A (n - 1) c (l.eraseIdx i) ∧ w.grownBy w' (rowOf A c) := by
  obtain ⟨hlen, hnc, hcm, hrow⟩ := ho
  have hl : l.length = n := by simpa using hlen
  rcases hrow with h0 | ⟨g, cur, rfl, hbg, hh, hsz, htk⟩
  · omega
  have hc0 : c ≠ 0 := by omega
  obtain ⟨i0, hi0, hz0, hz1, hz2⟩ := info_parts infoI
  have hcm' : c ≤ 9223372036854775807 := by unfold maxLen at hcm; omega
  have hcell : ∀ q, q < c → ∃ u, w.drew.cell? ⟨g, 0 + q, none⟩ = some u := by
    intro q hq
    refine ⟨cur[q]'(by omega), ?_⟩
    show w.cell? _ = _
    rw [cell_of_row w g (0 + q) cur 3 (0, 0) hh, Nat.zero_add, Array.getElem?_eq_getElem (by omega)]
  obtain ⟨news, hnews⟩ : ∃ news, news = (l.drop (i + 1)).map (Value.int .i64) := ⟨_, rfl⟩
  have hnl : news.length = n - (i + 1) := by rw [hnews]; simp [hl]
  obtain ⟨AA, hA, hsrc⟩ : ∃ AA : Addr, (if c = i + 1 then some (⟨g, 0, none⟩ : Addr) else some ⟨g, i + 1, none⟩) = some AA ∧ Hid (∀ t u, news[t]? = some u → w.drew.cell? (AA.add t) = some u) := by
    by_cases h : c = i + 1
    · refine ⟨⟨g, 0, none⟩, by simp [h], fun t u hu => ?_⟩
      have h1 : news.length = 0 := by rw [hnl]; omega
      rw [List.length_eq_zero_iff.1 h1] at hu
      simp at hu
    · refine ⟨⟨g, i + 1, none⟩, by simp [h], fun t u hu => ?_⟩
      rw [hnews, List.getElem?_map, List.getElem?_drop] at hu
      have hadd : (⟨g, i + 1, none⟩ : Addr).add t = ⟨g, i + 1 + t, none⟩ := by unfold Addr.add; split <;> simp_all
      rw [hadd]
      show w.cell? _ = _
      rw [cell_of_row w g _ cur 3 (0, 0) hh]
      have hq : i + 1 + t < n := by
        obtain ⟨y, hy, _⟩ := Option.map_eq_some_iff.1 hu
        have := (List.getElem?_eq_some_iff.1 hy).1
        omega
      have := congrArg (fun x : List Value => x[i + 1 + t]?) htk
      simp only [List.getElem?_take, List.getElem?_map, Nat.mul_one, if_pos hq, Array.getElem?_toList] at this
      rw [this, hu]
  have s1 : Hid (news.length = (n - (i + 1)) * 1) := by show _ = _; rw [hnl, Nat.mul_one]
  have s2 : Hid (∀ u ∈ news, u.oneCell' = true) := by
    intro u hu
    rw [hnews] at hu
    exact int_oneCell _ u hu
  have s3 : Hid (∀ t, t < news.length → (w.drew.cell? ⟨g, 0 + i * 1 + t, none⟩).isSome = true ∧ w.drew.frozen? ⟨g, 0 + i * 1 + t, none⟩ = false) := by
    intro t ht
    rw [hnl] at ht
    refine ⟨?_, by show w.frozen? _ = false; simp [World.frozen?, hh]⟩
    obtain ⟨u, hu⟩ := hcell (i + t) (by omega)
    rw [show 0 + i * 1 + t = 0 + (i + t) by omega, hu]
    rfl
  obtain ⟨W1, hW1⟩ : ∃ W1, W1 = w.drew.setCells g (0 + i * 1) news := ⟨_, rfl⟩
  have hh1 : W1.heap[g]? = some (.cells (setAt cur i news) 3 (0, 0)) := by rw [hW1, show 0 + i * 1 = i by omega]; exact heap_setCells g news i w.drew cur hh
  have hcl : ∀ ty, (Builtin.clear_ #[25] ty #[.slice (some ⟨g, i + (n - (i + 1)), none⟩) (n - (i + (n - (i + 1)))) (c - (i + (n - (i + 1))))]).run Try.prog W1 = .ok (.tuple #[]) (W1.setCells g (i + (n - (i + 1))) (List.replicate (n - (i + (n - (i + 1)))) (.int .i64 0))) :=
    fun ty => Lib.run_clear_slice W1 _ 3 ty _ Try.underlying25 (fun w => by kernel_rfl) rfl rfl g _ _ _ (by omega) (fun t ht => by
      rw [cell_of_row W1 g _ _ 3 (0, 0) hh1, Array.getElem?_eq_getElem (by rw [size_setAt]; omega)]; rfl) (fun t ht => by simp [World.frozen?, hh1])
  have hfin : Hid (OwI (W1.setCells g (i + (n - (i + 1))) (List.replicate (n - (i + (n - (i + 1)))) (.int .i64 0))) base 3 (some ⟨g, 0, none⟩) (n - 1) c (l.eraseIdx i)) := by
    refine ⟨by simp [List.length_eraseIdx, hl, hi], by omega, hcm, .inr ⟨g, _, rfl, hbg, heap_setCells g _ _ W1 _ hh1, by rw [size_setAt, size_setAt]; exact hsz, ?_⟩⟩
    have := delete_row cur n c i l hsz htk hl hnc hi
    rw [← hnews] at this
    rw [show n - (i + (n - (i + 1))) = 1 by omega, show i + (n - (i + 1)) = n - 1 by omega]
    exact this
  have hgr : Hid (w.grownBy (W1.setCells g (i + (n - (i + 1))) (List.replicate (n - (i + (n - (i + 1)))) (.int .i64 0))) (some g)) := by
    have g1 := grown_setCells g news (0 + i * 1) w.drew
    rw [← hW1] at g1
    have g2 := grown_setCells g (List.replicate (n - (i + (n - (i + 1)))) (.int .i64 0)) (i + (n - (i + 1))) W1
    exact ⟨g2.os.trans g1.os, g2.tape.trans g1.tape, g2.output.trans g1.output, Nat.le_trans g1.size g2.size, fun k hk hne => (g2.block k (Nat.lt_of_lt_of_le hk g1.size) hne).trans (g1.block k hk hne)⟩
  have hW : Hid (W1 = w.drew.setCells g (0 + i * 1) news) := hW1
  have hic : i ≤ c := by omega
  have hjc : i + 1 ≤ c := by omega
  have hb1 : (0 : Int) ≤ (i : Int) + 1 := by omega
  have hb2 : (i : Int) + 1 ≤ (n : Int) := by omega
  have hne : ((i : Int) == (i : Int) + 1) = false := by simp; omega
  have hrw : Hid (rowOf (some ⟨g, 0, none⟩) c = some g) := by show _ = _; simp [rowOf, hc0]
  clear hW1 hh1 hh hsz htk hnews hnl hcell hlen hcm hbg
  go_enter Try.func70, Try.ntmps70
  go_wp2_with fail
  go_region_law (refine step_append_room rfl (.tmp 22) (.tmp 25) 25 rfl 3 i0 1 Try.underlying25 hi0 hz1 g 0 i c (by simp [Act.eval, Act.put]) AA (n - (i + 1)) (c - (i + 1)) news (by simp [Act.eval, Act.put]) s1.out hsrc.out s2.out (by omega) s3.out ?_; rw [← hW.out])
  go_wp2
  go_ret
  refine ⟨?_, hfin.out, ?_⟩
  · rw [show n - 1 = i + (n - (i + 1)) by omega]; rfl
  · rw [hrw.out]; exact hgr.out

end Go.Proofs.Ythjanhfjehccoaa
