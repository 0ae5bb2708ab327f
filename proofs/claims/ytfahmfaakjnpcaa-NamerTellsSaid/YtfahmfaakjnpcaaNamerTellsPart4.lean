/-
  What cache.Put computes. Conditions: the slice arguments read as lists of at most 500 each.
  Namers (api.Namer), lookups in flight (api.Flying), deeds (api.Deed) in memory, and the keeper that goes on. Conditions: none; bounds on lengths are premises.
  The number of a goroutine's duct: what duct.Of and the document's Of compute. Conditions: which duct is from 0 to 4; the goroutine's number is at most 2^40.
-/
import Derived.Test.YtfahmfaakjnpcaaNamerTellsPart3
import Derived.Test.YtfahmfaakjnpcaaNamerTellsPart1
import Derived.Test.YtfahmfaakjnpcaaRows
namespace Go.Proofs.Ytfahmfaakjnpcaa
set_option linter.unusedVariables false
set_option linter.unusedSimpArgs false
open Go.RowKit Go.Shelf

def putAtKn (w : World) (g o : Nat) (y : Kn) : World := (((w.setCell ⟨g, o, none⟩ (.string y.1)).setCell ⟨g, o + 1, none⟩ (.string y.2.1)).setCell ⟨g, o + 2, none⟩ (.int .i64 y.2.2.1)).setCell ⟨g, o + 3, none⟩ (.int .i64 y.2.2.2)
theorem putAtKn_row {w : World} {g : Nat} {cur : Array Value} {t : TypeId} (o : Nat) (y : Kn) (h : w.heap[g]? = some (.cells cur t (0, 0))) :
    (putAtKn w g o y).heap[g]? = some (.cells ((((cur.setIfInBounds o (.string y.1)).setIfInBounds (o + 1) (.string y.2.1)).setIfInBounds (o + 2) (.int .i64 y.2.2.1)).setIfInBounds (o + 3) (.int .i64 y.2.2.2)) t (0, 0)) := by
  simp [putAtKn, World.setCell, Array.getElem?_modify, h]
theorem grown_setCell (w : World) (p : Addr) (u : Value) : w.grownBy (w.setCell p u) (some p.block) :=
  ⟨rfl, rfl, rfl, by simp [World.setCell], fun k _ hne => Below.heap_setCell w p u k (fun e => hne (by rw [e]))⟩
theorem putAtKn_grown (w : World) (g o : Nat) (y : Kn) : w.grownBy (putAtKn w g o y) (some g) :=
  grown_trans (grown_trans (grown_trans (grown_setCell w ⟨g, o, none⟩ _) (grown_setCell _ ⟨g, o + 1, none⟩ _)) (grown_setCell _ ⟨g, o + 2, none⟩ _)) (grown_setCell _ ⟨g, o + 3, none⟩ _)
theorem flat_get (l : List Kn) (i q : Nat) (hq : q < 4) : (l.flatMap encKn)[i * 4 + q]? = (l[i]?).bind fun x => (encKn x)[q]? := by
  cases hx : l[i]? with
  | some x =>
    have : (encKn x)[q]? = some ((encKn x)[q]'(by rw [encKn_len]; exact hq)) := List.getElem?_eq_getElem _
    rw [Option.bind_some, this]
    exact flatMap_at encKn_len l i q x _ hx this
  | none =>
    have : l.length ≤ i := List.getElem?_eq_none_iff.1 hx
    rw [Option.bind_none]
    exact List.getElem?_eq_none (by rw [flatMap_len encKn_len]; omega)
theorem OwKn.put {w : World} {base g n c i : Nat} {l : List Kn} (h : OwKn w base (some ⟨g, 0, none⟩) n c l) (hc : 0 < c) (hi : i < n) (y : Kn) : OwKn (putAtKn w g (i * 4) y) base (some ⟨g, 0, none⟩) n c (l.set i y) := by
  obtain ⟨hl, hxs, hnc, hcm, hrow⟩ := h
  rcases hrow with h0 | ⟨g', cur, e, hbg, hh, hsz, htk⟩
  · omega
  · injection e with e
    injection e with e
    subst e
    refine ⟨by rw [List.length_set]; exact hl, by rw [flatMap_len encKn_len, List.length_set, hl], hnc, hcm, .inr ⟨g, _, rfl, hbg, putAtKn_row _ y hh, by simp [hsz], ?_⟩⟩
    apply List.ext_getElem?
    intro j
    rw [List.getElem?_take]
    by_cases hj : j < n * 4
    · rw [if_pos hj, Array.getElem?_toList]
      have hc0 : cur[j]? = (l.flatMap encKn)[j]? := by
        rw [← htk, List.getElem?_take, if_pos hj, Array.getElem?_toList]
      have hjq : j = j / 4 * 4 + j % 4 := by omega
      have hq : j % 4 < 4 := Nat.mod_lt _ (by omega)
      have hr : ((l.set i y).flatMap encKn)[j]? = ((l.set i y)[j / 4]?).bind fun x => (encKn x)[j % 4]? := by
        have := flat_get (l.set i y) (j / 4) (j % 4) hq
        rw [← hjq] at this
        exact this
      have hr0 : (l.flatMap encKn)[j]? = (l[j / 4]?).bind fun x => (encKn x)[j % 4]? := by
        have := flat_get l (j / 4) (j % 4) hq
        rw [← hjq] at this
        exact this
      rw [hr, List.getElem?_set]
      by_cases hd : i = j / 4
      · rw [if_pos hd, if_pos (by omega), Option.bind_some]
        have h4 : j % 4 = 0 ∨ j % 4 = 1 ∨ j % 4 = 2 ∨ j % 4 = 3 := by omega
        rcases h4 with h4 | h4 | h4 | h4
        · obtain rfl : j = i * 4 := by omega
          rw [h4]
          simp [Array.getElem?_setIfInBounds, hsz, encKn]
          omega
        · obtain rfl : j = i * 4 + 1 := by omega
          rw [h4]
          simp [Array.getElem?_setIfInBounds, hsz, encKn]
          omega
        · obtain rfl : j = i * 4 + 2 := by omega
          rw [h4]
          simp [Array.getElem?_setIfInBounds, hsz, encKn]
          omega
        · obtain rfl : j = i * 4 + 3 := by omega
          rw [h4]
          simp [Array.getElem?_setIfInBounds, hsz, encKn]
          omega
      · rw [if_neg hd, ← hr0, ← hc0, Array.getElem?_setIfInBounds_ne (by omega), Array.getElem?_setIfInBounds_ne (by omega), Array.getElem?_setIfInBounds_ne (by omega), Array.getElem?_setIfInBounds_ne (by omega)]
    · rw [if_neg hj, List.getElem?_eq_none (by rw [flatMap_len encKn_len, List.length_set, hl]; omega)]
theorem idxK_above (O : List Kn) (s : ByteArray) : idxK O (fun k => !sLe k.1 s) = if abovePl O s < O.length then (abovePl O s : Int) else -1 := by
  unfold idxK abovePl
  by_cases h : O.findIdx (fun k => !sLe k.1 s) < O.length
  · rw [if_pos h]
    have : O.findIdx? (fun k => !sLe k.1 s) = some (O.findIdx fun k => !sLe k.1 s) := by
      rw [List.findIdx?_eq_some_iff_findIdx_eq]
      exact ⟨h, rfl⟩
    rw [this]
  · rw [if_neg h]
    have : O.findIdx? (fun k => !sLe k.1 s) = none := by
      rw [List.findIdx?_eq_none_iff_findIdx_eq]
      have := List.findIdx_le_length (xs := O) (p := fun k => !sLe k.1 s)
      omega
    rw [this]
theorem oneK_some {O : List Kn} {x : Kn} {i : Nat} (h : placeK O x.1 = some i) : oneK O x = O.set i x := by unfold oneK; rw [h]
theorem oneK_none {O : List Kn} {x : Kn} (h : placeK O x.1 = none) : oneK O x = O.take (abovePl O x.1) ++ x :: O.drop (abovePl O x.1) := by unfold oneK; rw [h]
theorem above_le (O : List Kn) (s : ByteArray) : abovePl O s ≤ O.length := List.findIdx_le_length
set_option maxRecDepth 100000 in
set_option maxHeartbeats 4000000 in
theorem PutKn_any (A : Option Addr) (n c : Nat) (l : List Kn) (A2 : Option Addr) (n2 c2 : Nat) (more : List Kn) (w : World) (hl : Kns w w.heap.size A n l) (hm : Kns w w.heap.size A2 n2 more) (hn : n ≤ 500) (hn2 : n2 ≤ 400) :
    Calls Try.prog 50 #[.slice A n c, .slice A2 n2 c2] w fun e w' => ∃ A' c', e = .returned (.slice A' (putK l more).length c') ∧ OwKn w' w.heap.size A' (putK l more).length c' (putK l more) ∧ Below w.heap.size w w' := by
  have HL := Lib.hid hl.1
  have HM := Lib.hid hm.1
  go_enter Try.func50, Try.ntmps50
  go_wp2_with fail
  refine (CloneKn_any A n c _ l _ hl (by omega)).mono ?_
  rintro e w1 ⟨A1, c1, rfl, ho1, hb1⟩
  go_wp2_with fail
  go_loopw [0, 13] (fun s0 s13 wr => ∃ (k m : Nat) (A' : Option Addr) (c' : Nat), k ≤ n2 ∧ m ≤ 500 + k ∧ s13 = .int .i64 k ∧ s0 = .slice A' m c' ∧ OwKn wr w.heap.size A' m c' (putK l (more.take k)) ∧ Below w.heap.size w wr) (fun _ s13 _ => n2 - (intOf s13).toNat)
  case atStart => exact ⟨0, n, A1, c1, Nat.zero_le _, by omega, rfl, rfl, ho1, hb1⟩
  case round =>
    clear ho1 hb1
    obtain ⟨k, m, A', c', hk, hmk, rfl, rfl, ho, hb⟩ := hrel
    by_cases hlt : k < n2
    · obtain ⟨b, off, x, rfl, hbb, hx, hc0, hc1, hc2, hc3⟩ := Kns.cells (hm.below hb) hlt
      have hst : putK l (more.take (k + 1)) = oneK (putK l (more.take k)) x := by rw [take_succ_of hx.out, putK_snoc]
      obtain ⟨O, hO⟩ : ∃ O, O = putK l (more.take k) := ⟨_, rfl⟩
      rw [← hO] at hst ho
      have HST := Lib.hid hst
      have hOl : O.length = m := ho.1
      have HOL := Lib.hid hOl
      have hsz := hb.size
      clear hst hO hOl
      have hba := hb.alloc hsz (.cells #[.string x.1, .string x.2.1, .int .i64 x.2.2.1, .int .i64 x.2.2.2] 110)
      have hoa := ho.alloc (.cells #[.string x.1, .string x.2.1, .int .i64 x.2.2.1, .int .i64 x.2.2.2] 110)
      have hxa : (wr.alloc (.cells #[.string x.1, .string x.2.1, .int .i64 x.2.2.1, .int .i64 x.2.2.2] 110)).heap[wr.heap.size]? = some (.cells #[.string x.1, .string x.2.1, .int .i64 x.2.2.1, .int .i64 x.2.2.2] 110 (0, 0)) := heap_alloc_new wr _
      have hra : rowOf A' c' ≠ some wr.heap.size := fun e => by have := (Ow.row ho.2 _ e).2; omega
      go_wp2_with fail
      refine (named_any _ _).mono ?_
      rintro e w2 ⟨g, rfl, hg, hb2⟩
      clear ho hb
      replace hoa := OwR.below hoa hb2
      replace hxa := (hb2.block wr.heap.size (by simp)).trans hxa
      replace hba := hba.trans (hb2.mono hba.size)
      have lg := block_lt_of_cell hg
      clear hb2 hc0 hc1 hc2 hc3
      go_wp2_with fail
      refine (firstKn_any 72 eg_named #[.pointer (some ⟨g, 0, none⟩)] (fun k => sEq k.1 x.1) _ _ _ w2.heap.size O _ hoa.recs (Nat.le_refl _) (by omega) (fun y wx _ hbx => namedC_any y g x.1 wx ((hbx.cell (p := ⟨g, 0, none⟩) lg).trans hg))).mono ?_
      rintro e w3 ⟨rfl, hb3⟩
      replace hoa := OwR.below hoa hb3
      have lx2 : wr.heap.size < w2.heap.size := block_lt_of_cell (kn_cells hxa).1
      replace hxa := (hb3.block wr.heap.size lx2).trans hxa
      replace hba := hba.trans (hb3.mono hba.size)
      clear hb3 hg lg lx2
      have lx := block_lt_of_cell (kn_cells hxa).1
      cases hp : placeK O x.1 with
      | some i =>
        have hi : idxK O (fun k => sEq k.1 x.1) = (i : Int) := by unfold idxK; unfold placeK at hp; rw [hp]
        have hlt2 : i < m := by rw [← HOL.out]; exact placeK_lt hp
        rw [oneK_some hp] at HST
        rw [hi]
        clear hp hi
        obtain ⟨gr, hgr, hcp⟩ : ∃ gr, A' = some ⟨gr, 0, none⟩ ∧ 0 < c' := by
          rcases hoa.2.2.2.2 with h0 | ⟨gr, _, h, _⟩
          · have := hoa.2.2.1; omega
          · exact ⟨gr, h, by have := hoa.2.2.1; omega⟩
        subst hgr
        obtain ⟨z0, z1, z2, z3⟩ := kn_cells hxa
        obtain ⟨y, hy⟩ : ∃ y, O[i]? = some y := ⟨_, List.getElem?_eq_getElem (by rw [HOL.out]; exact hlt2)⟩
        obtain ⟨_, y0, y1, y2, y3⟩ := Kns.cells_at hoa.recs hlt2 hy
        simp only [Nat.zero_add] at y0 y1 y2 y3
        have hfz : ∀ o, w3.frozen? ⟨gr, o, none⟩ = false := by
          rcases hoa.2.2.2.2 with h0 | ⟨g', cur, e, _, hh, _⟩
          · omega
          · injection e with e
            injection e with e
            subst e
            exact frozen_row hh
        have f0 := hfz (i * 4)
        have f1 := hfz (i * 4 + 1)
        have f2 := hfz (i * 4 + 2)
        have f3 := hfz (i * 4 + 3)
        have hop := OwKn.put hoa hcp hlt2 x
        have hgp := putAtKn_grown w3 gr (i * 4) x
        have hrow := (Ow.row hoa.2 gr (by simp [rowOf]; omega)).1
        have hbp := hba.grown hgp hba.size (fun g hg => by injection hg with hg; omega)
        have i0 : (0 : Int) ≤ (i : Int) := by omega
        have i1 : (i : Int) < (m : Int) := by omega
        have HOP := Lib.hid hop
        clear hy hfz hop hgp
        rw [← HST.out] at HOP
        unfold putAtKn at HOP hbp
        go_wp2_with fail
        go_roundw
        case rel => exact ⟨k + 1, m, _, c', by omega, by omega, by go_num, rfl, HOP.out, hbp⟩
        case measure => simp [intOf]; omega
      | none =>
        have hi : idxK O (fun k => sEq k.1 x.1) = -1 := by unfold idxK; unfold placeK at hp; rw [hp]
        rw [oneK_none hp] at HST
        rw [hi]
        clear hp hi
        go_wp2_with fail
        refine (firstKn_any 65 eg_above #[.pointer (some ⟨wr.heap.size, 0, none⟩)] (fun k => !sLe k.1 x.1) _ _ _ w3.heap.size O _ hoa.recs (Nat.le_refl _) (by omega) (fun y wx _ hbx => aboveC_any y wr.heap.size x.1 wx ((hbx.cell (p := ⟨wr.heap.size, 0, none⟩) lx).trans (kn_cells hxa).1))).mono ?_
        rintro e w4 ⟨rfl, hb4⟩
        replace hoa := OwR.below hoa hb4
        replace hxa := (hb4.block wr.heap.size lx).trans hxa
        replace hba := hba.trans (hb4.mono hba.size)
        replace lx := block_lt_of_cell (kn_cells hxa).1
        clear hb4
        rw [idxK_above, HOL.out]
        have hale := above_le O x.1
        rw [HOL.out] at hale
        obtain ⟨i, hi⟩ : ∃ i, i = abovePl O x.1 := ⟨_, rfl⟩
        rw [← hi] at hale HST
        rw [← hi]
        clear hi
        obtain ⟨z0, z1, z2, z3⟩ := kn_cells hxa
        have hins := InsKn_any w.heap.size A' m c' i w4.heap.size O x (w4.alloc (.cells #[.string x.1, .string x.2.1, .int .i64 x.2.2.1, .int .i64 x.2.2.2] 110)) (hoa.alloc _) hale (heap_alloc_new w4 _) (fun e => by have := (Ow.row hoa.2 _ e).2; omega) (by omega) (by have := hba.size; simp; omega)
        have hbb4 := hba.alloc hba.size (.cells #[.string x.1, .string x.2.1, .int .i64 x.2.2.1, .int .i64 x.2.2.2] 110)
        by_cases hlt3 : i < m
        · rw [if_pos hlt3]
          have i0 : ¬ ((i : Int) < 0) := by omega
          go_wp2_with fail
          refine hins.mono ?_
          rintro e w5 ⟨A5, c5, rfl, ho5, hg5⟩
          rw [← HST.out] at ho5
          have hb5 := hbb4.grown hg5 hbb4.size (fun g hg => (Ow.row hoa.2 g hg).1)
          clear hg5
          go_wp2_with fail
          go_roundw
          case rel => exact ⟨k + 1, m + 1, A5, c5, by omega, by omega, by go_num, rfl, ho5, hb5⟩
          case measure => simp [intOf]; omega
        · rw [if_neg hlt3]
          obtain rfl : i = m := by omega
          go_wp2_with fail
          refine hins.mono ?_
          rintro e w5 ⟨A5, c5, rfl, ho5, hg5⟩
          rw [← HST.out] at ho5
          have hb5 := hbb4.grown hg5 hbb4.size (fun g hg => (Ow.row hoa.2 g hg).1)
          clear hg5
          go_wp2_with fail
          go_roundw
          case rel => exact ⟨k + 1, i + 1, A5, c5, by omega, by omega, by go_num, rfl, ho5, hb5⟩
          case measure => simp [intOf]; omega
    · obtain rfl : k = n2 := by omega
      have ht : more.take k = more := List.take_of_length_le (by rw [HM.out]; omega)
      rw [ht] at ho
      have hml : (putK l more).length = m := ho.1
      have HML := Lib.hid hml
      clear ht hml
      go_wp2_with fail
      go_ret
      exact ⟨A', c', by rw [HML.out]; rfl, by rw [HML.out]; exact ho, hb⟩
end Go.Proofs.Ytfahmfaakjnpcaa
namespace Go.Proofs.Ytfahmfaakjnpcaa
set_option linter.unusedVariables false
set_option linter.unusedSimpArgs false
open Go.RowKit Go.Shelf

/-- A lookup in flight as it lies in a row: the name, the seeker, the slice of who asked. -/
structure FlH where
  name : ByteArray
  seeker : Int
  A : Option Addr
  n : Nat
  c : Nat
def encFl (x : FlH) : List Value := [.string x.name, .int .i64 x.seeker, .slice x.A x.n x.c]
theorem encFl_len (x : FlH) : (encFl x).length = 3 := rfl
theorem encFl_one (x : FlH) (u : Value) (h : u ∈ encFl x) : u.oneCell' = true := by
  simp only [encFl, List.mem_cons, List.not_mem_nil, or_false] at h
  rcases h with rfl | rfl | rfl <;> rfl
theorem infoFl : (Try.prog.info? 82).map (fun i => (i.zero, i.size, i.bytes)) = some (some (.agg #[.string ⟨#[]⟩, .int .i64 0, .slice none 0 0]), 3, 48) := by kernel_rfl
theorem encFl_oneCell (l : List FlH) : ∀ u ∈ l.flatMap encFl, u.oneCell' = true := by
  intro u hu
  obtain ⟨x, _, hx⟩ := List.mem_flatMap.1 hu
  exact encFl_one x u hx
abbrev Fls (w : World) (B : Nat) (A : Option Addr) (n : Nat) (xs : List FlH) : Prop := Recs encFl 3 w B A n xs
abbrev OwFl (w : World) (base : Nat) (A : Option Addr) (n c : Nat) (xs : List FlH) : Prop := OwR encFl 3 w base 82 A n c xs
theorem wpList_appFl (w : World) {ops : Array Oper} {rest : List Oper} {o : Oper} {a : Act} {Q : Exit → Act → World → Prop} (hgd : o.guard = none) (s x : Operand)
    (ho : o.op = .call { callee := .builtin .append, args := #[s, x], argTypes := #[27, 27] })
    (base : Nat) (A : Option Addr) (n c : Nat) (l : List FlH) (hsv : a.eval s = .slice A n c) (hown : OwFl w base A n c l)
    (B : Nat) (A2 : Option Addr) (m c2 : Nat) (l2 : List FlH) (hxv : a.eval x = .slice A2 m c2) (hs : Fls w B A2 m l2) (hb : n + m ≤ 1000000) (hbase : base ≤ w.heap.size)
    (h : ∀ A' c' w', OwFl w' base A' (n + m) c' (l ++ l2) → w.grownBy w' (rowOf A c) → (rowOf A' c' = rowOf A c ∨ (rowOf A' c' = some w.heap.size ∧ 0 < m)) →
      wpList Try.prog ops Q rest (a.put o.dst (.slice A' (n + m) c')) w') : wpList Try.prog ops Q (o :: rest) a w := by
  obtain ⟨i0, hi0, hz0, hz1, hz2⟩ := info_parts infoFl
  refine wpList_append_Ow w hgd s x 27 ho base 82 i0 _ 3 48 Try.underlying27 hi0 hz0 hz1 hz2 rfl (by decide) A n c _ hsv hown.2 B A2 m c2 _ hxv hs.2 (encFl_oneCell _) (by unfold maxLen; omega) (by omega) hbase ?_
  intro A' c' w' h1 h2 h3
  exact h A' c' w' ⟨by rw [List.length_append, hown.1, hs.1], by rw [List.flatMap_append]; exact h1⟩ h2 h3
theorem step_appFl {ops : Array Oper} {o : Oper} {a : Act} {w : World} {K : Act → World → Prop} {Q : Exit → Act → World → Prop} {E : Prop} (hgd : o.guard = none) (s x : Operand)
    (ho : o.op = .call { callee := .builtin .append, args := #[s, x], argTypes := #[27, 27] })
    (base : Nat) (A : Option Addr) (n c : Nat) (l : List FlH) (hsv : a.eval s = .slice A n c) (hown : OwFl w base A n c l)
    (B : Nat) (A2 : Option Addr) (m c2 : Nat) (l2 : List FlH) (hxv : a.eval x = .slice A2 m c2) (hs : Fls w B A2 m l2) (hb : n + m ≤ 1000000) (hbase : base ≤ w.heap.size)
    (h : ∀ A' c' w', OwFl w' base A' (n + m) c' (l ++ l2) → w.grownBy w' (rowOf A c) → (rowOf A' c' = rowOf A c ∨ (rowOf A' c' = some w.heap.size ∧ 0 < m)) → K (a.put o.dst (.slice A' (n + m) c')) w') :
    if Region.wanted o (yielded ops a.tmps) = true then Oper.wp Try.prog o a w K Q else E := by
  obtain ⟨i0, hi0, hz0, hz1, hz2⟩ := info_parts infoFl
  refine step_append_Ow hgd s x 27 ho base 82 i0 _ 3 48 Try.underlying27 hi0 hz0 hz1 hz2 rfl (by decide) A n c _ hsv hown.2 B A2 m c2 _ hxv hs.2 (encFl_oneCell _) (by unfold maxLen; omega) (by omega) hbase ?_
  intro A' c' w' h1 h2 h3
  exact h A' c' w' ⟨by rw [List.length_append, hown.1, hs.1], by rw [List.flatMap_append]; exact h1⟩ h2 h3
abbrev valFl (x : FlH) : Value := .agg #[.string x.name, .int .i64 x.seeker, .slice x.A x.n x.c]
theorem Fls.cells {w : World} {B : Nat} {A : Option Addr} {n : Nat} {xs : List FlH} (h : Fls w B A n xs) {i : Nat} (hi : i < n) :
    ∃ b off x, A = some ⟨b, off, none⟩ ∧ b < B ∧ Hid (xs[i]? = some x) ∧ w.cell? ⟨b, off + i * 3, none⟩ = some (.string x.name) ∧ w.cell? ⟨b, off + i * 3 + 1, none⟩ = some (.int .i64 x.seeker) ∧ w.cell? ⟨b, off + i * 3 + 2, none⟩ = some (.slice x.A x.n x.c) := by
  obtain ⟨b, off, x, e, hb, hx, hc⟩ := Recs.at_ encFl_len (by omega) h hi
  exact ⟨b, off, x, e, hb, hx, hc 0 _ rfl, by have := hc 1 _ rfl; rwa [← Nat.add_assoc] at this, by have := hc 2 _ rfl; rwa [← Nat.add_assoc] at this⟩
theorem Fls.cells_at {w : World} {B b off n i : Nat} {xs : List FlH} {x : FlH} (h : Fls w B (some ⟨b, off, none⟩) n xs) (hi : i < n) (hx : xs[i]? = some x) :
    b < B ∧ w.cell? ⟨b, off + i * 3, none⟩ = some (.string x.name) ∧ w.cell? ⟨b, off + i * 3 + 1, none⟩ = some (.int .i64 x.seeker) ∧ w.cell? ⟨b, off + i * 3 + 2, none⟩ = some (.slice x.A x.n x.c) := by
  obtain ⟨b', off', y, e, hbb, hy, hc⟩ := Fls.cells h hi
  injection e with e
  injection e with e1 e2
  subst e1 e2
  have h2 := hy.out
  rw [hx] at h2
  injection h2 with h2
  subst h2
  exact ⟨hbb, hc⟩
set_option maxHeartbeats 400000 in
theorem CloneFl_any (A : Option Addr) (n c B : Nat) (l : List FlH) (w : World) (hl : Fls w B A n l) (hn : n ≤ 100000) :
    Calls Try.prog 46 #[.slice A n c] w fun e w' => ∃ A' c', e = .returned (.slice A' n c') ∧ OwFl w' w.heap.size A' n c' l ∧ Below w.heap.size w w' := by
  have hq := fun wx => Lib.run_eql_slice_nil (P := Try.prog) wx 27 82 A n c 0 0 Try.underlying27
  rcases A with _ | a
  · have hn0 : n = 0 := by
      rcases Nat.eq_zero_or_pos n with h | h
      · exact h
      · obtain ⟨b, off, e, _⟩ := hl.2.2 h (by omega)
        cases e
    have hl0 : l = [] := List.eq_nil_of_length_eq_zero (by rw [hl.1]; exact hn0)
    subst hn0 hl0
    go_enter Try.func46, Try.ntmps46
    go_wp2
    go_ret
    exact ⟨none, 0, rfl, OwR.nil_ _ _ _ _, Below.refl _ _⟩
  · rcases Nat.eq_zero_or_pos n with h0 | h0
    · subst h0
      have hl0 : l = [] := List.eq_nil_of_length_eq_zero hl.1
      subst hl0
      go_enter Try.func46, Try.ntmps46
      go_wp2_with (at_builtin; refine wpList_appFl _ rfl (.tmp 5) (.tmp 6) rfl w.heap.size _ _ _ _ rfl (OwR.nil_ _ _ _ _) B _ _ _ [] rfl (Recs.nil_ _ _ _) (by omega) (by simp) ?_; intro A2 c2 w2 ho2 hg2 hr2)
      go_ret
      exact ⟨A2, c2, rfl, ho2, (Below.new_ w _).grown hg2 (by simp) (by simp [rowOf])⟩
    · obtain ⟨b, off, ha, hbb, hcells⟩ := hl.2.2 h0 (by omega)
      obtain rfl : a = ⟨b, off, none⟩ := by injection ha
      have hlt : b < w.heap.size := by
        obtain ⟨b', off', x, ha', _, _, hc⟩ := hl.at_ encFl_len (by decide) h0
        injection ha' with ha'
        injection ha' with e1 e2
        subst e1
        exact block_lt_of_cell (hc 0 ((encFl x)[0]'(by rw [encFl_len]; decide)) (List.getElem?_eq_getElem _))
      have hl2 : Fls w w.heap.size (some ⟨b, off, none⟩) n l := ⟨hl.1, hl.2.1, fun _ _ => ⟨b, off, rfl, hlt, hcells⟩⟩
      clear ha hcells
      go_enter Try.func46, Try.ntmps46
      go_wp2_with (at_builtin; refine wpList_appFl _ rfl (.tmp 5) (.tmp 6) rfl w.heap.size _ _ _ _ rfl (OwR.nil_ _ _ _ _) w.heap.size _ _ _ l rfl (hl2.alloc (Nat.le_refl _) _) (by omega) (by simp) ?_; intro A2 c2 w2 ho2 hg2 hr2)
      go_ret
      exact ⟨A2, c2, by simp, by simpa using ho2, (Below.new_ w _).grown hg2 (by simp) (by simp [rowOf])⟩

/-- Lookups in flight, with who asked. -/
abbrev Fx := FlH × List Int
def FlysIs (w : World) (B : Nat) (A : Option Addr) (n : Nat) (fs : List Fx) : Prop := Fls w B A n (fs.map (·.1)) ∧ ∀ p ∈ fs, Ints w B p.1.A p.1.n p.2 ∧ p.1.n ≤ p.1.c ∧ (p.1.A = none → p.1.c = 0)
section
variable {w w' : World} {B B' n : Nat} {A : Option Addr} {fs : List Fx}
theorem FlysIs.len (h : FlysIs w B A n fs) : fs.length = n := by have := h.1.1; simpa using this
theorem FlysIs.nil_ (w : World) (B : Nat) (A : Option Addr) : FlysIs w B A 0 [] := ⟨Recs.nil_ _ _ _, by simp⟩
theorem FlysIs.more (h : FlysIs w B A n fs) (hB : B ≤ B') : FlysIs w B' A n fs := ⟨h.1.more hB, fun p hp => ⟨(h.2 p hp).1.more hB, (h.2 p hp).2⟩⟩
theorem FlysIs.below (h : FlysIs w B A n fs) (hb : Below B w w') : FlysIs w' B A n fs := ⟨h.1.below hb, fun p hp => ⟨(h.2 p hp).1.below hb, (h.2 p hp).2⟩⟩
theorem FlysIs.below' (h : FlysIs w B A n fs) (hb : Below B' w w') (hB : B ≤ B') : FlysIs w' B A n fs := ⟨h.1.below' hb hB, fun p hp => ⟨(h.2 p hp).1.below' hb hB, (h.2 p hp).2⟩⟩
theorem FlysIs.alloc (h : FlysIs w B A n fs) (hB : B ≤ w.heap.size) (o : Obj) : FlysIs (w.alloc o) B A n fs := ⟨h.1.alloc hB o, fun p hp => ⟨(h.2 p hp).1.alloc hB o, (h.2 p hp).2⟩⟩
end

/-- Who is looked up, by whom, who asked: without places in memory. -/
abbrev Fy := ByteArray × Int × List Int
def absF (fs : List Fx) : List Fy := fs.map fun p => (p.1.name, p.1.seeker, p.2)
theorem absF_len (fs : List Fx) : (absF fs).length = fs.length := by simp [absF]

/-- A namer as it lies in memory. -/
structure NmH where
  id : Int
  cf : Cf
  kA : Option Addr
  kn : Nat
  kc : Nat
  fA : Option Addr
  fn : Nat
  fc : Nat
  over : Bool
abbrev valNm (h : NmH) : Value := .agg #[.int .i64 h.id, .int .i64 h.cf.1, .int .i64 h.cf.2.1, .int .i64 h.cf.2.2.1, .int .i64 h.cf.2.2.2.1, .int .i64 h.cf.2.2.2.2.1, .int .i64 h.cf.2.2.2.2.2.1, .int .i64 h.cf.2.2.2.2.2.2.1, .int .i64 h.cf.2.2.2.2.2.2.2.1, .int .i64 h.cf.2.2.2.2.2.2.2.2, .slice h.kA h.kn h.kc, .slice h.fA h.fn h.fc, .bool h.over]
/-- A namer, without places in memory. -/
structure Nm where
  id : Int
  cf : Cf
  kn : List Kn
  fl : List Fy
  over : Bool
structure NmIs (w : World) (B : Nat) (h : NmH) (l : List Kn) (fs : List Fx) : Prop where
  k : Kns w B h.kA h.kn l
  f : FlysIs w B h.fA h.fn fs
  kc : h.kn ≤ h.kc
  fc : h.fn ≤ h.fc
theorem NmIs.more {w : World} {B B' : Nat} {h : NmH} {l : List Kn} {fs : List Fx} (hh : NmIs w B h l fs) (hB : B ≤ B') : NmIs w B' h l fs := ⟨hh.k.more hB, hh.f.more hB, hh.kc, hh.fc⟩
theorem NmIs.below {w w' : World} {B : Nat} {h : NmH} {l : List Kn} {fs : List Fx} (hh : NmIs w B h l fs) (hb : Below B w w') : NmIs w' B h l fs := ⟨hh.k.below hb, hh.f.below hb, hh.kc, hh.fc⟩
theorem NmIs.next {w w' : World} {h : NmH} {l : List Kn} {fs : List Fx} (hh : NmIs w w.heap.size h l fs) (hb : Below w.heap.size w w') : NmIs w' w'.heap.size h l fs := (hh.below hb).more hb.size
def absN (h : NmH) (l : List Kn) (fs : List Fx) : Nm := ⟨h.id, h.cf, l, absF fs, h.over⟩

/-- A deed as it lies in a row. -/
structure DdH where
  k : Int
  a : Int
  lk : Int
  text : ByteArray
  e : Int
  go : Option Addr
def encDd (x : DdH) : List Value := [.int .i8 x.k, .int .i64 x.a, .int .i8 x.lk, .int .i64 0, .int .i64 0, .int .i64 0, .string x.text, .int .i64 x.e, .int .i8 0, .int .u16 0, .int .u16 0, .int .u16 0, .int .u16 0, .int .u16 0, .int .u16 0, .int .u16 0, .int .u16 0, .int .i64 0, .pointer x.go]
theorem encDd_len (x : DdH) : (encDd x).length = 19 := rfl
theorem encDd_one (x : DdH) (u : Value) (h : u ∈ encDd x) : u.oneCell' = true := by
  simp only [encDd, List.mem_cons, List.not_mem_nil, or_false] at h
  rcases h with rfl | rfl | rfl | rfl | rfl | rfl | rfl | rfl | rfl | rfl | rfl | rfl | rfl | rfl | rfl | rfl | rfl | rfl | rfl <;> rfl
theorem infoDd : (Try.prog.info? 50).map (fun i => (i.zero, i.size, i.bytes)) = some (some (.agg #[.int .i8 0, .int .i64 0, .int .i8 0, .int .i64 0, .int .i64 0, .int .i64 0, .string ⟨#[]⟩, .int .i64 0, .int .i8 0, .int .u16 0, .int .u16 0, .int .u16 0, .int .u16 0, .int .u16 0, .int .u16 0, .int .u16 0, .int .u16 0, .int .i64 0, .pointer none]), 19, 112) := by kernel_rfl
theorem encDd_oneCell (l : List DdH) : ∀ u ∈ l.flatMap encDd, u.oneCell' = true := by
  intro u hu
  obtain ⟨x, _, hx⟩ := List.mem_flatMap.1 hu
  exact encDd_one x u hx
abbrev Dds (w : World) (B : Nat) (A : Option Addr) (n : Nat) (xs : List DdH) : Prop := Recs encDd 19 w B A n xs
abbrev OwDd (w : World) (base : Nat) (A : Option Addr) (n c : Nat) (xs : List DdH) : Prop := OwR encDd 19 w base 50 A n c xs
theorem wpList_appDd (w : World) {ops : Array Oper} {rest : List Oper} {o : Oper} {a : Act} {Q : Exit → Act → World → Prop} (hgd : o.guard = none) (s x : Operand)
    (ho : o.op = .call { callee := .builtin .append, args := #[s, x], argTypes := #[41, 41] })
    (base : Nat) (A : Option Addr) (n c : Nat) (l : List DdH) (hsv : a.eval s = .slice A n c) (hown : OwDd w base A n c l)
    (B : Nat) (A2 : Option Addr) (m c2 : Nat) (l2 : List DdH) (hxv : a.eval x = .slice A2 m c2) (hs : Dds w B A2 m l2) (hb : n + m ≤ 1000000) (hbase : base ≤ w.heap.size)
    (h : ∀ A' c' w', OwDd w' base A' (n + m) c' (l ++ l2) → w.grownBy w' (rowOf A c) → (rowOf A' c' = rowOf A c ∨ (rowOf A' c' = some w.heap.size ∧ 0 < m)) →
      wpList Try.prog ops Q rest (a.put o.dst (.slice A' (n + m) c')) w') : wpList Try.prog ops Q (o :: rest) a w := by
  obtain ⟨i0, hi0, hz0, hz1, hz2⟩ := info_parts infoDd
  refine wpList_append_Ow w hgd s x 41 ho base 50 i0 _ 19 112 Try.underlying41 hi0 hz0 hz1 hz2 rfl (by decide) A n c _ hsv hown.2 B A2 m c2 _ hxv hs.2 (encDd_oneCell _) (by unfold maxLen; omega) (by omega) hbase ?_
  intro A' c' w' h1 h2 h3
  exact h A' c' w' ⟨by rw [List.length_append, hown.1, hs.1], by rw [List.flatMap_append]; exact h1⟩ h2 h3
theorem step_appDd {ops : Array Oper} {o : Oper} {a : Act} {w : World} {K : Act → World → Prop} {Q : Exit → Act → World → Prop} {E : Prop} (hgd : o.guard = none) (s x : Operand)
    (ho : o.op = .call { callee := .builtin .append, args := #[s, x], argTypes := #[41, 41] })
    (base : Nat) (A : Option Addr) (n c : Nat) (l : List DdH) (hsv : a.eval s = .slice A n c) (hown : OwDd w base A n c l)
    (B : Nat) (A2 : Option Addr) (m c2 : Nat) (l2 : List DdH) (hxv : a.eval x = .slice A2 m c2) (hs : Dds w B A2 m l2) (hb : n + m ≤ 1000000) (hbase : base ≤ w.heap.size)
    (h : ∀ A' c' w', OwDd w' base A' (n + m) c' (l ++ l2) → w.grownBy w' (rowOf A c) → (rowOf A' c' = rowOf A c ∨ (rowOf A' c' = some w.heap.size ∧ 0 < m)) → K (a.put o.dst (.slice A' (n + m) c')) w') :
    if Region.wanted o (yielded ops a.tmps) = true then Oper.wp Try.prog o a w K Q else E := by
  obtain ⟨i0, hi0, hz0, hz1, hz2⟩ := info_parts infoDd
  refine step_append_Ow hgd s x 41 ho base 50 i0 _ 19 112 Try.underlying41 hi0 hz0 hz1 hz2 rfl (by decide) A n c _ hsv hown.2 B A2 m c2 _ hxv hs.2 (encDd_oneCell _) (by unfold maxLen; omega) (by omega) hbase ?_
  intro A' c' w' h1 h2 h3
  exact h A' c' w' ⟨by rw [List.length_append, hown.1, hs.1], by rw [List.flatMap_append]; exact h1⟩ h2 h3
/-- A seeker that is spawned: its number, its namer, the name. -/
abbrev Sk := Int × Int × ByteArray
def procCells (s : Sk) : Array Value := #[.int .i8 5, .int .i64 0, .int .i64 0, .int .i64 0, .int .i64 0, .int .i64 0, .int .i64 0, .int .i64 0, .int .i64 0, .int .i64 0, .int .i64 0, .slice none 0 0, .slice none 0 0, .bool false, .int .i64 0, .int .i64 0, .string ⟨#[]⟩, .int .i64 0, .int .i64 0, .int .i64 0, .int .i64 0, .int .i64 0, .int .i64 0, .int .i64 0, .int .i64 0, .int .i64 0, .int .i64 0, .slice none 0 0, .slice none 0 0, .slice none 0 0, .int .i64 0, .bool false, .int .i64 0, .slice none 0 0, .bool false, .int .i64 0, .int .i64 0, .int .i8 0, .int .i64 0, .int .i64 0, .slice none 0 0, .int .i8 0, .int .i64 0, .int .i64 0, .int .i64 0, .int .i64 0, .int .i64 0, .int .i64 0, .int .i64 0, .int .i64 0, .int .i64 0, .int .i64 0, .int .i64 0, .int .i64 0, .int .i64 0, .int .i64 0, .int .i64 0, .int .i64 0, .string ⟨#[]⟩, .int .i64 0, .slice none 0 0, .int .i8 0, .slice none 0 0, .int .i64 0, .int .i64 0, .slice none 0 0, .int .i64 0, .bool false, .int .i64 0, .int .i64 0, .int .i64 0, .int .i64 0, .int .i8 0, .int .u16 0, .int .u16 0, .int .u16 0, .int .u16 0, .int .u16 0, .int .u16 0, .int .u16 0, .int .u16 0, .int .i64 0, .int .i8 0, .int .i64 0, .int .i64 s.1, .int .i64 s.2.1, .string s.2.2, .int .i8 0, .int .i8 0, .int .i64 0, .int .i64 0, .int .i64 0, .string ⟨#[]⟩, .int .i64 0]
/-- The goroutine as a value. -/
def procV (s : Sk) : Value := .agg (procCells s)
theorem procV_cells (s : Sk) : (procV s).cells = procCells s := rfl
def GoIs (w : World) (B : Nat) : Option Addr → Option Sk → Prop
  | none, none => True
  | some a, some s => ∃ g, a = ⟨g, 0, none⟩ ∧ g < B ∧ w.heap[g]? = some (.cells (procCells s) 74 (0, 0))
  | _, _ => False
theorem GoIs.keep {w w' : World} {B B' : Nat} {a : Option Addr} {s : Option Sk} (h : GoIs w B a s) (hk : ∀ g, g < B → w'.heap[g]? = w.heap[g]?) (hB : B ≤ B') : GoIs w' B' a s := by
  rcases a with _ | a <;> rcases s with _ | s
  · trivial
  · exact h.elim
  · exact h.elim
  · obtain ⟨g, e, hg, hh⟩ := h
    exact ⟨g, e, Nat.lt_of_lt_of_le hg hB, (hk g hg).trans hh⟩
abbrev Dx := DdH × Option Sk
/-- A row of deeds of the call's own. -/
def OwDs (w : World) (base : Nat) (A : Option Addr) (n c : Nat) (ds : List Dx) : Prop := OwDd w base A n c (ds.map (·.1)) ∧ ∀ p ∈ ds, GoIs w w.heap.size p.1.go p.2
def DdsIs (w : World) (B : Nat) (A : Option Addr) (n : Nat) (ds : List Dx) : Prop := Dds w B A n (ds.map (·.1)) ∧ ∀ p ∈ ds, GoIs w B p.1.go p.2
theorem DdsIs.len {w : World} {B n : Nat} {A : Option Addr} {ds : List Dx} (h : DdsIs w B A n ds) : ds.length = n := by have := h.1.1; simpa using this
theorem DdsIs.next {w w' : World} {A : Option Addr} {n : Nat} {ds : List Dx} (h : DdsIs w w.heap.size A n ds) (hb : Below w.heap.size w w') : DdsIs w' w'.heap.size A n ds :=
  ⟨(Recs.below h.1 hb).more hb.size, fun p hp => (h.2 p hp).keep (fun g hg => hb.block g hg) hb.size⟩
theorem OwDs.nil_ (w : World) (base : Nat) (A : Option Addr) : OwDs w base A 0 0 [] := ⟨OwR.nil_ _ _ _ _, by simp⟩
theorem OwDs.is {w : World} {base n c : Nat} {A : Option Addr} {ds : List Dx} (h : OwDs w base A n c ds) : DdsIs w w.heap.size A n ds := ⟨h.1.recs, h.2⟩
theorem OwDs.below {w w' : World} {base n c : Nat} {A : Option Addr} {ds : List Dx} (h : OwDs w base A n c ds) (hb : Below w.heap.size w w') : OwDs w' base A n c ds :=
  ⟨h.1.below hb, fun p hp => (h.2 p hp).keep (fun g hg => hb.block g hg) hb.size⟩
/-- A deed, without places in memory. -/
structure Dn where
  k : Int
  a : Int
  lk : Int
  text : ByteArray
  e : Int
  go : Option Sk
def absD (ds : List Dx) : List Dn := ds.map fun p => ⟨p.1.k, p.1.a, p.1.lk, p.1.text, p.1.e, p.2⟩
end Go.Proofs.Ytfahmfaakjnpcaa
namespace Go.Proofs.Ytfahmfaakjnpcaa
set_option linter.unusedVariables false
set_option linter.unusedSimpArgs false
open Go.RowKit

/-- The number of a duct. -/
def ofD (p q : Int) : Int := if p < 0 then -1 else wrap64 (wrap64 (p * 5) + q)
theorem ofD_of {p q : Int} (h0 : 0 ≤ p) (h1 : p ≤ 1099511627776) (h2 : 0 ≤ q) (h3 : q < 5) : ofD p q = p * 5 + q := by
  unfold ofD
  rw [if_neg (by omega)]
  have e1 : wrap64 (p * 5) = p * 5 := by unfold wrap64; omega
  rw [e1]
  unfold wrap64
  omega
theorem ofD_neg {p q : Int} (h0 : p < 0) : ofD p q = -1 := by unfold ofD; rw [if_pos h0]
theorem DOf_any (p q : Int) (w : World) (hq : 0 ≤ q) (hq2 : q < 5) : Calls Try.prog 34 #[.int .i64 p, .int .i64 q] w fun e w' => e = .returned (.int .i64 (ofD p q)) ∧ w = w' := by
  have d2 : decide (q < 0) = false := by simp; omega
  have d3 : decide (5 ≤ q) = false := by simp; omega
  by_cases hp : p < 0
  · have d1 : decide (p < 0) = true := by simpa using hp
    have HR : Hid (ofD p q = -1) := by show _ = _; unfold ofD; rw [if_pos hp]
    clear hp
    go_enter Try.func34, Try.ntmps34
    go_wp2
    go_ret
    exact ⟨ret_int HR.out.symm, rfl⟩
  · have d1 : decide (p < 0) = false := by simpa using hp
    have HR : Hid (ofD p q = wrap64 (wrap64 (p * 5) + q)) := by show _ = _; unfold ofD; rw [if_neg hp]
    clear hp hq hq2
    go_enter Try.func34, Try.ntmps34
    go_wp2
    go_ret
    exact ⟨ret_int (by rw [HR.out]), rfl⟩
theorem rOf5_any (p q : Int) (w : World) (hq : 0 ≤ q) (hq2 : q < 5) (hp1 : p ≤ 1099511627776) : Calls Try.prog 10 #[.int .i64 p, .int .i64 q] w fun e w' => e = .returned (.int .i64 (ofD p q)) ∧ w = w' := by
  have d2 : decide (q < 0) = false := by simp; omega
  have d3 : decide (5 ≤ q) = false := by simp; omega
  by_cases hp : p < 0
  · have d1 : decide (p < 0) = true := by simpa using hp
    have HR : Hid (ofD p q = -1) := ofD_neg hp
    clear hp
    go_enter Try.func10, Try.ntmps10
    go_wp2
    go_ret
    exact ⟨ret_int HR.out.symm, rfl⟩
  · have d1 : decide (p < 0) = false := by simpa using hp
    have HR : Hid (ofD p q = p * 5 + q) := ofD_of (by omega) hp1 hq hq2
    have hp0 : 0 ≤ p := by omega
    clear hp
    go_enter Try.func10, Try.ntmps10
    go_wp2
    go_ret
    exact ⟨ret_int (by rw [HR.out]; omega), rfl⟩
end Go.Proofs.Ytfahmfaakjnpcaa
