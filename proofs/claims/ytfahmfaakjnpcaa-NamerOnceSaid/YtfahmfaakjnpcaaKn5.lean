/-
  What cache.Put computes. Conditions: the slice arguments read as lists of at most 500 each.
-/
import Derived.Test.YtfahmfaakjnpcaaKn4
namespace Go.Proofs.Ytfahmfaakjnpcaa
set_option linter.unusedVariables false
set_option linter.unusedSimpArgs false
open Go.RowKit Go.Shelf

def putAtKn (w : World) (g o : Nat) (y : Kn) : World := (((w.setCell ⟨g, o, none⟩ (.string y.1)).setCell ⟨g, o + 1, none⟩ (.string y.2.1)).setCell ⟨g, o + 2, none⟩ (.int .i64 y.2.2.1)).setCell ⟨g, o + 3, none⟩ (.int .i64 y.2.2.2)
theorem putAtKn_row {w : World} {g : Nat} {cur : Array Value} {t : TypeId} (o : Nat) (y : Kn) (h : w.heap[g]? = some (.cells cur t (0, 0))) :
    (putAtKn w g o y).heap[g]? = some (.cells ((((cur.setIfInBounds o (.string y.1)).setIfInBounds (o + 1) (.string y.2.1)).setIfInBounds (o + 2) (.int .i64 y.2.2.1)).setIfInBounds (o + 3) (.int .i64 y.2.2.2)) t (0, 0)) := by
  simp [putAtKn, World.setCell, Array.getElem?_modify, h]
theorem grown_setCell (w : World) (p : Addr) (u : Value) : w.grownBy (w.setCell p u) (some p.block) :=
  ⟨rfl, rfl, rfl, by simp [World.setCell], fun k _ hne => Below.heap_setCell w p u k (fun e => hne (by rw [e]))⟩
theorem putAtKn_grown (w : World) (g o : Nat) (y : Kn) : w.grownBy (putAtKn w g o y) (some g) :=
  grown_trans (grown_trans (grown_trans (grown_setCell w ⟨g, o, none⟩ _) (grown_setCell _ ⟨g, o + 1, none⟩ _)) (grown_setCell _ ⟨g, o + 2, none⟩ _)) (grown_setCell _ ⟨g, o + 3, none⟩ _)
theorem flat_get (l : List Kn) (i q : Nat) (hq : q < 4) : (l.flatMap encKn)[i * 4 + q]? = (l[i]?).bind fun x => (encKn x)[q]? := by
  cases hx : l[i]? with
  | some x =>
    have : (encKn x)[q]? = some ((encKn x)[q]'(by rw [encKn_len]; exact hq)) := List.getElem?_eq_getElem _
    rw [Option.bind_some, this]
    exact flatMap_at encKn_len l i q x _ hx this
  | none =>
    have : l.length ≤ i := List.getElem?_eq_none_iff.1 hx
    rw [Option.bind_none]
    exact List.getElem?_eq_none (by rw [flatMap_len encKn_len]; omega)
theorem OwKn.put {w : World} {base g n c i : Nat} {l : List Kn} (h : OwKn w base (some ⟨g, 0, none⟩) n c l) (hc : 0 < c) (hi : i < n) (y : Kn) : OwKn (putAtKn w g (i * 4) y) base (some ⟨g, 0, none⟩) n c (l.set i y) := by
  obtain ⟨hl, hxs, hnc, hcm, hrow⟩ := h
  rcases hrow with h0 | ⟨g', cur, e, hbg, hh, hsz, htk⟩
  · omega
  · injection e with e
    injection e with e
    subst e
    refine ⟨by rw [List.length_set]; exact hl, by rw [flatMap_len encKn_len, List.length_set, hl], hnc, hcm, .inr ⟨g, _, rfl, hbg, putAtKn_row _ y hh, by simp [hsz], ?_⟩⟩
    apply List.ext_getElem?
    intro j
    rw [List.getElem?_take]
    by_cases hj : j < n * 4
    · rw [if_pos hj, Array.getElem?_toList]
      have hc0 : cur[j]? = (l.flatMap encKn)[j]? := by
        rw [← htk, List.getElem?_take, if_pos hj, Array.getElem?_toList]
      have hjq : j = j / 4 * 4 + j % 4 := by omega
      have hq : j % 4 < 4 := Nat.mod_lt _ (by omega)
      have hr : ((l.set i y).flatMap encKn)[j]? = ((l.set i y)[j / 4]?).bind fun x => (encKn x)[j % 4]? := by
        have := flat_get (l.set i y) (j / 4) (j % 4) hq
        rw [← hjq] at this
        exact this
      have hr0 : (l.flatMap encKn)[j]? = (l[j / 4]?).bind fun x => (encKn x)[j % 4]? := by
        have := flat_get l (j / 4) (j % 4) hq
        rw [← hjq] at this
        exact this
      rw [hr, List.getElem?_set]
      by_cases hd : i = j / 4
      · rw [if_pos hd, if_pos (by omega), Option.bind_some]
        have h4 : j % 4 = 0 ∨ j % 4 = 1 ∨ j % 4 = 2 ∨ j % 4 = 3 := by omega
        rcases h4 with h4 | h4 | h4 | h4
        · obtain rfl : j = i * 4 := by omega
          rw [h4]
          simp [Array.getElem?_setIfInBounds, hsz, encKn]
          omega
        · obtain rfl : j = i * 4 + 1 := by omega
          rw [h4]
          simp [Array.getElem?_setIfInBounds, hsz, encKn]
          omega
        · obtain rfl : j = i * 4 + 2 := by omega
          rw [h4]
          simp [Array.getElem?_setIfInBounds, hsz, encKn]
          omega
        · obtain rfl : j = i * 4 + 3 := by omega
          rw [h4]
          simp [Array.getElem?_setIfInBounds, hsz, encKn]
          omega
      · rw [if_neg hd, ← hr0, ← hc0, Array.getElem?_setIfInBounds_ne (by omega), Array.getElem?_setIfInBounds_ne (by omega), Array.getElem?_setIfInBounds_ne (by omega), Array.getElem?_setIfInBounds_ne (by omega)]
    · rw [if_neg hj, List.getElem?_eq_none (by rw [flatMap_len encKn_len, List.length_set, hl]; omega)]
theorem idxK_above (O : List Kn) (s : ByteArray) : idxK O (fun k => !sLe k.1 s) = if abovePl O s < O.length then (abovePl O s : Int) else -1 := by
  unfold idxK abovePl
  by_cases h : O.findIdx (fun k => !sLe k.1 s) < O.length
  · rw [if_pos h]
    have : O.findIdx? (fun k => !sLe k.1 s) = some (O.findIdx fun k => !sLe k.1 s) := by
      rw [List.findIdx?_eq_some_iff_findIdx_eq]
      exact ⟨h, rfl⟩
    rw [this]
  · rw [if_neg h]
    have : O.findIdx? (fun k => !sLe k.1 s) = none := by
      rw [List.findIdx?_eq_none_iff_findIdx_eq]
      have := List.findIdx_le_length (xs := O) (p := fun k => !sLe k.1 s)
      omega
    rw [this]
theorem oneK_some {O : List Kn} {x : Kn} {i : Nat} (h : placeK O x.1 = some i) : oneK O x = O.set i x := by unfold oneK; rw [h]
theorem oneK_none {O : List Kn} {x : Kn} (h : placeK O x.1 = none) : oneK O x = O.take (abovePl O x.1) ++ x :: O.drop (abovePl O x.1) := by unfold oneK; rw [h]
theorem above_le (O : List Kn) (s : ByteArray) : abovePl O s ≤ O.length := List.findIdx_le_length
set_option maxRecDepth 100000 in
set_option maxHeartbeats 4000000 in
theorem PutKn_any (A : Option Addr) (n c : Nat) (l : List Kn) (A2 : Option Addr) (n2 c2 : Nat) (more : List Kn) (w : World) (hl : Kns w w.heap.size A n l) (hm : Kns w w.heap.size A2 n2 more) (hn : n ≤ 500) (hn2 : n2 ≤ 400) :
    Calls Try.prog 50 #[.slice A n c, .slice A2 n2 c2] w fun e w' => ∃ A' c', e = .returned (.slice A' (putK l more).length c') ∧ OwKn w' w.heap.size A' (putK l more).length c' (putK l more) ∧ Below w.heap.size w w' := by
  have HL := Lib.hid hl.1
  have HM := Lib.hid hm.1
  go_enter Try.func50, Try.ntmps50
  go_wp2_with fail
  refine (CloneKn_any A n c _ l _ hl (by omega)).mono ?_
  rintro e w1 ⟨A1, c1, rfl, ho1, hb1⟩
  go_wp2_with fail
  go_loopw [0, 13] (fun s0 s13 wr => ∃ (k m : Nat) (A' : Option Addr) (c' : Nat), k ≤ n2 ∧ m ≤ 500 + k ∧ s13 = .int .i64 k ∧ s0 = .slice A' m c' ∧ OwKn wr w.heap.size A' m c' (putK l (more.take k)) ∧ Below w.heap.size w wr) (fun _ s13 _ => n2 - (intOf s13).toNat)
  case atStart => exact ⟨0, n, A1, c1, Nat.zero_le _, by omega, rfl, rfl, ho1, hb1⟩
  case round =>
    clear ho1 hb1
    obtain ⟨k, m, A', c', hk, hmk, rfl, rfl, ho, hb⟩ := hrel
    by_cases hlt : k < n2
    · obtain ⟨b, off, x, rfl, hbb, hx, hc0, hc1, hc2, hc3⟩ := Kns.cells (hm.below hb) hlt
      have hst : putK l (more.take (k + 1)) = oneK (putK l (more.take k)) x := by rw [take_succ_of hx.out, putK_snoc]
      obtain ⟨O, hO⟩ : ∃ O, O = putK l (more.take k) := ⟨_, rfl⟩
      rw [← hO] at hst ho
      have HST := Lib.hid hst
      have hOl : O.length = m := ho.1
      have HOL := Lib.hid hOl
      have hsz := hb.size
      clear hst hO hOl
      have hba := hb.alloc hsz (.cells #[.string x.1, .string x.2.1, .int .i64 x.2.2.1, .int .i64 x.2.2.2] 110)
      have hoa := ho.alloc (.cells #[.string x.1, .string x.2.1, .int .i64 x.2.2.1, .int .i64 x.2.2.2] 110)
      have hxa : (wr.alloc (.cells #[.string x.1, .string x.2.1, .int .i64 x.2.2.1, .int .i64 x.2.2.2] 110)).heap[wr.heap.size]? = some (.cells #[.string x.1, .string x.2.1, .int .i64 x.2.2.1, .int .i64 x.2.2.2] 110 (0, 0)) := heap_alloc_new wr _
      have hra : rowOf A' c' ≠ some wr.heap.size := fun e => by have := (Ow.row ho.2 _ e).2; omega
      go_wp2_with fail
      refine (named_any _ _).mono ?_
      rintro e w2 ⟨g, rfl, hg, hb2⟩
      clear ho hb
      replace hoa := OwR.below hoa hb2
      replace hxa := (hb2.block wr.heap.size (by simp)).trans hxa
      replace hba := hba.trans (hb2.mono hba.size)
      have lg := block_lt_of_cell hg
      clear hb2 hc0 hc1 hc2 hc3
      go_wp2_with fail
      refine (firstKn_any 72 eg_named #[.pointer (some ⟨g, 0, none⟩)] (fun k => sEq k.1 x.1) _ _ _ w2.heap.size O _ hoa.recs (Nat.le_refl _) (by omega) (fun y wx _ hbx => namedC_any y g x.1 wx ((hbx.cell (p := ⟨g, 0, none⟩) lg).trans hg))).mono ?_
      rintro e w3 ⟨rfl, hb3⟩
      replace hoa := OwR.below hoa hb3
      have lx2 : wr.heap.size < w2.heap.size := block_lt_of_cell (kn_cells hxa).1
      replace hxa := (hb3.block wr.heap.size lx2).trans hxa
      replace hba := hba.trans (hb3.mono hba.size)
      clear hb3 hg lg lx2
      have lx := block_lt_of_cell (kn_cells hxa).1
      cases hp : placeK O x.1 with
      | some i =>
        have hi : idxK O (fun k => sEq k.1 x.1) = (i : Int) := by unfold idxK; unfold placeK at hp; rw [hp]
        have hlt2 : i < m := by rw [← HOL.out]; exact placeK_lt hp
        rw [oneK_some hp] at HST
        rw [hi]
        clear hp hi
        obtain ⟨gr, hgr, hcp⟩ : ∃ gr, A' = some ⟨gr, 0, none⟩ ∧ 0 < c' := by
          rcases hoa.2.2.2.2 with h0 | ⟨gr, _, h, _⟩
          · have := hoa.2.2.1; omega
          · exact ⟨gr, h, by have := hoa.2.2.1; omega⟩
        subst hgr
        obtain ⟨z0, z1, z2, z3⟩ := kn_cells hxa
        obtain ⟨y, hy⟩ : ∃ y, O[i]? = some y := ⟨_, List.getElem?_eq_getElem (by rw [HOL.out]; exact hlt2)⟩
        obtain ⟨_, y0, y1, y2, y3⟩ := Kns.cells_at hoa.recs hlt2 hy
        simp only [Nat.zero_add] at y0 y1 y2 y3
        have hfz : ∀ o, w3.frozen? ⟨gr, o, none⟩ = false := by
          rcases hoa.2.2.2.2 with h0 | ⟨g', cur, e, _, hh, _⟩
          · omega
          · injection e with e
            injection e with e
            subst e
            exact frozen_row hh
        have f0 := hfz (i * 4)
        have f1 := hfz (i * 4 + 1)
        have f2 := hfz (i * 4 + 2)
        have f3 := hfz (i * 4 + 3)
        have hop := OwKn.put hoa hcp hlt2 x
        have hgp := putAtKn_grown w3 gr (i * 4) x
        have hrow := (Ow.row hoa.2 gr (by simp [rowOf]; omega)).1
        have hbp := hba.grown hgp hba.size (fun g hg => by injection hg with hg; omega)
        have i0 : (0 : Int) ≤ (i : Int) := by omega
        have i1 : (i : Int) < (m : Int) := by omega
        have HOP := Lib.hid hop
        clear hy hfz hop hgp
        rw [← HST.out] at HOP
        unfold putAtKn at HOP hbp
        go_wp2_with fail
        go_roundw
        case rel => exact ⟨k + 1, m, _, c', by omega, by omega, by go_num, rfl, HOP.out, hbp⟩
        case measure => simp [intOf]; omega
      | none =>
        have hi : idxK O (fun k => sEq k.1 x.1) = -1 := by unfold idxK; unfold placeK at hp; rw [hp]
        rw [oneK_none hp] at HST
        rw [hi]
        clear hp hi
        go_wp2_with fail
        refine (firstKn_any 65 eg_above #[.pointer (some ⟨wr.heap.size, 0, none⟩)] (fun k => !sLe k.1 x.1) _ _ _ w3.heap.size O _ hoa.recs (Nat.le_refl _) (by omega) (fun y wx _ hbx => aboveC_any y wr.heap.size x.1 wx ((hbx.cell (p := ⟨wr.heap.size, 0, none⟩) lx).trans (kn_cells hxa).1))).mono ?_
        rintro e w4 ⟨rfl, hb4⟩
        replace hoa := OwR.below hoa hb4
        replace hxa := (hb4.block wr.heap.size lx).trans hxa
        replace hba := hba.trans (hb4.mono hba.size)
        replace lx := block_lt_of_cell (kn_cells hxa).1
        clear hb4
        rw [idxK_above, HOL.out]
        have hale := above_le O x.1
        rw [HOL.out] at hale
        obtain ⟨i, hi⟩ : ∃ i, i = abovePl O x.1 := ⟨_, rfl⟩
        rw [← hi] at hale HST
        rw [← hi]
        clear hi
        obtain ⟨z0, z1, z2, z3⟩ := kn_cells hxa
        have hins := InsKn_any w.heap.size A' m c' i w4.heap.size O x (w4.alloc (.cells #[.string x.1, .string x.2.1, .int .i64 x.2.2.1, .int .i64 x.2.2.2] 110)) (hoa.alloc _) hale (heap_alloc_new w4 _) (fun e => by have := (Ow.row hoa.2 _ e).2; omega) (by omega) (by have := hba.size; simp; omega)
        have hbb4 := hba.alloc hba.size (.cells #[.string x.1, .string x.2.1, .int .i64 x.2.2.1, .int .i64 x.2.2.2] 110)
        by_cases hlt3 : i < m
        · rw [if_pos hlt3]
          have i0 : ¬ ((i : Int) < 0) := by omega
          go_wp2_with fail
          refine hins.mono ?_
          rintro e w5 ⟨A5, c5, rfl, ho5, hg5⟩
          rw [← HST.out] at ho5
          have hb5 := hbb4.grown hg5 hbb4.size (fun g hg => (Ow.row hoa.2 g hg).1)
          clear hg5
          go_wp2_with fail
          go_roundw
          case rel => exact ⟨k + 1, m + 1, A5, c5, by omega, by omega, by go_num, rfl, ho5, hb5⟩
          case measure => simp [intOf]; omega
        · rw [if_neg hlt3]
          obtain rfl : i = m := by omega
          go_wp2_with fail
          refine hins.mono ?_
          rintro e w5 ⟨A5, c5, rfl, ho5, hg5⟩
          rw [← HST.out] at ho5
          have hb5 := hbb4.grown hg5 hbb4.size (fun g hg => (Ow.row hoa.2 g hg).1)
          clear hg5
          go_wp2_with fail
          go_roundw
          case rel => exact ⟨k + 1, i + 1, A5, c5, by omega, by omega, by go_num, rfl, ho5, hb5⟩
          case measure => simp [intOf]; omega
    · obtain rfl : k = n2 := by omega
      have ht : more.take k = more := List.take_of_length_le (by rw [HM.out]; omega)
      rw [ht] at ho
      have hml : (putK l more).length = m := ho.1
      have HML := Lib.hid hml
      clear ht hml
      go_wp2_with fail
      go_ret
      exact ⟨A', c', by rw [HML.out]; rfl, by rw [HML.out]; exact ho, hb⟩
end Go.Proofs.Ytfahmfaakjnpcaa
