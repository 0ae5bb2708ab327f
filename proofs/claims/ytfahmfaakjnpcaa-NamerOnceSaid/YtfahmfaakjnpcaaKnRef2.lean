/-
  What the document's functions one, Put of chapter 11 compute. Conditions: the slice arguments read as lists of at most 500 each.
-/
import Derived.Test.YtfahmfaakjnpcaaKnRef
namespace Go.Proofs.Ytfahmfaakjnpcaa
set_option linter.unusedVariables false
set_option linter.unusedSimpArgs false
open Go.RowKit Go.Shelf

theorem Kns.rest {w : World} {B g n c k : Nat} {l : List Kn} (h : Kns w B (some ⟨g, 0, none⟩) n l) (hk : k ≤ n) (hc : n ≤ c) : Kns w B (if c = k then some ⟨g, 0, none⟩ else some ⟨g, k * 4, none⟩) (n - k) (l.drop k) := by
  have hl := h.1
  by_cases e : c = k
  · have : n = k := by omega
    subst this
    rw [Nat.sub_self, show l.drop n = [] from List.drop_eq_nil_of_le (by omega)]
    exact Recs.nil_ _ _ _
  · rw [if_neg e]
    refine ⟨by rw [List.length_drop, hl], ?_, fun h0 h1 => ?_⟩
    · rw [flatMap_len encKn_len, List.length_drop, hl]
    · obtain ⟨b', off', e1, e2, e3⟩ := h.2.2 (by omega) h1
      injection e1 with e1
      injection e1 with ea eb
      subst ea eb
      refine ⟨g, k * 4, rfl, e2, fun j u hu => ?_⟩
      have e4 := flat_split l k
      have e5 : ((l.take k).flatMap encKn).length = k * 4 := by rw [flatMap_len encKn_len, List.length_take]; congr 1; omega
      have e6 := e3 (k * 4 + j) u (by rw [e4, List.getElem?_append_right (by omega), e5, Nat.add_sub_cancel_left]; exact hu)
      rw [Nat.zero_add] at e6
      exact e6
theorem Kns.pre {w : World} {B : Nat} {A : Option Addr} {n k : Nat} {l : List Kn} (h : Kns w B A n l) (hk : k ≤ n) : Kns w B A k (l.take k) := by
  have hl := h.1
  have e0 : (l.take k).length = k := by rw [List.length_take]; omega
  refine ⟨e0, by rw [flatMap_len encKn_len, e0], fun h0 h1 => ?_⟩
  obtain ⟨b', off', e1, e2, e3⟩ := h.2.2 (by omega) h1
  refine ⟨b', off', e1, e2, fun j u hu => e3 j u ?_⟩
  rw [flat_split l k, List.getElem?_append_left (List.getElem?_eq_some_iff.1 hu).1]
  exact hu
theorem above_at {l : List Kn} {s : ByteArray} {k : Nat} {y : Kn} (hk : abovePl l s = k) (hy : l[k]? = some y) : sLe y.1 s = false := by
  obtain ⟨hlt, he⟩ := List.getElem?_eq_some_iff.1 hy
  subst hk
  unfold abovePl at hlt he
  have := List.findIdx_getElem (w := hlt)
  rw [he] at this
  simpa using this
theorem step_buildKn {ops : Array Oper} {o : Oper} {a : Act} {w : World} {K : Act → World → Prop} {Q : Exit → Act → World → Prop} {E : Prop} (hgd : o.guard = none) (t : Operand)
    (ho : o.op = .buildSlice 26 1 #[(0, t)]) (x : Kn) (hx : a.eval t = .agg #[.string x.1, .string x.2.1, .int .i64 x.2.2.1, .int .i64 x.2.2.2])
    (h : ∀ A w', Kns w' w'.heap.size A 1 [x] → Below w.heap.size w w' → K (a.put o.dst (.slice A 1 1)) w') :
    if Region.wanted o (yielded ops a.tmps) = true then Oper.wp Try.prog o a w K Q else E := by
  have hw : Region.wanted o (yielded ops a.tmps) = true := by simp [Region.wanted, hgd]
  rw [if_pos hw]
  have h2 := h (some ⟨w.heap.size, 0, none⟩) (w.alloc (.cells #[.string x.1, .string x.2.1, .int .i64 x.2.2.1, .int .i64 x.2.2.2] 110)) (by simpa using Kns.new1 w _ rfl x 110) (Below.new_ w _)
  unfold Oper.wp execOp
  simp only [ho, resolve, List.map_toArray, List.map_cons, List.map_nil, hx]
  go_simp
  exact h2
theorem step_buildKn0 {ops : Array Oper} {o : Oper} {a : Act} {w : World} {K : Act → World → Prop} {Q : Exit → Act → World → Prop} {E : Prop} (hgd : o.guard = none)
    (ho : o.op = .buildSlice 26 0 #[]) (h : ∀ A w', Below w.heap.size w w' → K (a.put o.dst (.slice A 0 0)) w') :
    if Region.wanted o (yielded ops a.tmps) = true then Oper.wp Try.prog o a w K Q else E := by
  have hw : Region.wanted o (yielded ops a.tmps) = true := by simp [Region.wanted, hgd]
  rw [if_pos hw]
  have h2 := h (some ⟨w.heap.size, 0, none⟩) (w.alloc (.cells #[] 110)) (Below.new_ w _)
  unfold Oper.wp execOp
  simp only [ho, resolve, List.map_toArray, List.map_nil]
  go_simp
  exact h2
theorem step_appKn0 {ops : Array Oper} {o : Oper} {a : Act} {w : World} {K : Act → World → Prop} {Q : Exit → Act → World → Prop} {E : Prop} (hgd : o.guard = none) (s x : Operand)
    (ho : o.op = .call { callee := .builtin .append, args := #[s, x], argTypes := #[26, 26] })
    (base : Nat) (A : Option Addr) (hsv : a.eval s = .slice A 0 0)
    (B : Nat) (A2 : Option Addr) (m c2 : Nat) (l2 : List Kn) (hxv : a.eval x = .slice A2 m c2) (hs : Kns w B A2 m l2) (hb : m ≤ 1000000) (hbase : base ≤ w.heap.size)
    (h : ∀ A' c' w', OwKn w' base A' m c' l2 → Below w.heap.size w w' → K (a.put o.dst (.slice A' m c')) w') :
    if Region.wanted o (yielded ops a.tmps) = true then Oper.wp Try.prog o a w K Q else E := by
  refine step_appKn hgd s x ho base A 0 0 [] hsv (OwR.nil_ _ _ _ _) B A2 m c2 l2 hxv hs (by omega) hbase ?_
  intro A' c' w' ho' hg' _
  have h2 := h A' c' w' (by simpa using ho') ((Below.refl _ _).grown hg' (Nat.le_refl _) (by simp [rowOf]))
  simpa using h2
set_option maxRecDepth 100000 in
set_option maxHeartbeats 4000000 in
theorem rone_any (base : Nat) (A : Option Addr) (n c : Nat) (l : List Kn) (x : Kn) (w : World) (ho : OwKn w base A n c l) (hn : n ≤ 1000) :
    Calls Try.prog 70 #[.slice A n c, .agg #[.string x.1, .string x.2.1, .int .i64 x.2.2.1, .int .i64 x.2.2.2]] w fun e w' => ∃ A' c', e = .returned (.slice A' (oneK l x).length c') ∧ OwKn w' w.heap.size A' (oneK l x).length c' (oneK l x) ∧ Below w.heap.size w w' := by
  have hl0 := ho.recs
  have HL := Lib.hid ho.1
  have hbw := Below.new_ w (.cells #[.string x.1, .string x.2.1, .int .i64 x.2.2.1, .int .i64 x.2.2.2] 110)
  have hxa : (w.alloc (.cells #[.string x.1, .string x.2.1, .int .i64 x.2.2.1, .int .i64 x.2.2.2] 110)).heap[w.heap.size]? = some (.cells #[.string x.1, .string x.2.1, .int .i64 x.2.2.1, .int .i64 x.2.2.2] 110 (0, 0)) := heap_alloc_new w _
  have lx : w.heap.size < (w.alloc (.cells #[.string x.1, .string x.2.1, .int .i64 x.2.2.1, .int .i64 x.2.2.2] 110)).heap.size := by simp
  have hnc := ho.2.2.1
  have hcm := ho.2.2.2.1
  unfold maxLen at hcm
  have hla := (hl0.alloc (Nat.le_refl _) (.cells #[.string x.1, .string x.2.1, .int .i64 x.2.2.1, .int .i64 x.2.2.2] 110)).more (B' := (w.alloc (.cells #[.string x.1, .string x.2.1, .int .i64 x.2.2.1, .int .i64 x.2.2.2] 110)).heap.size) (by first | omega | (simp; done) | (simp; omega))
  go_enter Try.func70, Try.ntmps70
  go_wp2_with fail
  refine (rplace_any _ _ _ _ l x.1 _ hla hn).mono ?_
  rintro e w2 ⟨rfl, rfl⟩
  unfold placeZ
  cases hp : placeK l x.1 with
  | some i =>
    have hlt : i < n := by rw [← HL.out]; exact placeK_lt hp
    have hlen : (oneK l x).length = n := by rw [oneK_some hp, List.length_set]; exact HL.out
    have HO := Lib.hid (oneK_some hp)
    have HLEN := Lib.hid hlen
    simp only []
    have i0 : (0 : Int) ≤ (i : Int) := by omega
    clear hp hlen
    have hbase : w.heap.size ≤ ((w.alloc (.cells #[.string x.1, .string x.2.1, .int .i64 x.2.2.1, .int .i64 x.2.2.2] 110)).alloc (.cells #[] 110)).heap.size := by simp; omega
    have hZ : 0 + n = n := by omega
    have HZ := Lib.hid hZ
    clear hZ
    go_upto_region 4 with (at_builtin; refine wpList_appKn _ rfl (.tmp 13) (.tmp 14) rfl w.heap.size _ _ _ [] rfl (OwR.nil_ _ _ _ _) _ _ _ _ l rfl (hla.alloc (Nat.le_refl _) _) (by omega) hbase ?_; intro A1 c1 w1 ho1 hg1 hr1; rw [HZ.out, List.nil_append] at ho1; rw [HZ.out])
    have hb1 : Below (w.heap.size + 1) (w.alloc (.cells #[.string x.1, .string x.2.1, .int .i64 x.2.2.1, .int .i64 x.2.2.2] 110)) w1 := (((Below.refl _ _).alloc (by first | omega | (simp; done) | (simp; omega)) _).grown hg1 (by first | omega | (simp; done) | (simp; omega)) (by simp [rowOf]))
    replace hxa := (hb1.block w.heap.size (by first | omega | (simp; done) | (simp; omega))).trans hxa
    obtain ⟨gr, hgr, hcp⟩ : ∃ gr, A1 = some ⟨gr, 0, none⟩ ∧ 0 < c1 := by
      rcases ho1.2.2.2.2 with h0 | ⟨gr, _, h, _⟩
      · have := ho1.2.2.1; omega
      · exact ⟨gr, h, by have := ho1.2.2.1; omega⟩
    subst hgr
    obtain ⟨z0, z1, z2, z3⟩ := kn_cells hxa
    obtain ⟨y, hy⟩ : ∃ y, l[i]? = some y := ⟨_, List.getElem?_eq_getElem (by rw [HL.out]; exact hlt)⟩
    obtain ⟨_, y0, y1, y2, y3⟩ := Kns.cells_at ho1.recs hlt hy
    simp only [Nat.zero_add] at y0 y1 y2 y3
    have hfz : ∀ o, w1.frozen? ⟨gr, o, none⟩ = false := by
      rcases ho1.2.2.2.2 with h0 | ⟨g', cur, e, _, hh, _⟩
      · omega
      · injection e with e
        injection e with e
        subst e
        exact frozen_row hh
    have f0 := hfz (i * 4)
    have f1 := hfz (i * 4 + 1)
    have f2 := hfz (i * 4 + 2)
    have f3 := hfz (i * 4 + 3)
    have hop := OwKn.put ho1 hcp hlt x
    have hrow := (Ow.row ho1.2 gr (by simp [rowOf]; omega)).1
    have hbp := (hbw.trans (hb1.mono (by first | omega | (simp; done) | (simp; omega)))).grown (putAtKn_grown w1 gr (i * 4) x) (by have := hb1.size; simp at this; omega) (fun g hg => by injection hg with hg; omega)
    have i1 : (i : Int) < (n : Int) := by omega
    have HOP := Lib.hid hop
    clear hy hfz hop hg1 hr1 hb1
    rw [← HO.out] at HOP
    unfold putAtKn at HOP hbp
    go_wp2_with fail
    go_ret
    exact ⟨_, c1, by rw [HLEN.out]; rfl, by rw [HLEN.out]; exact HOP.out, hbp⟩
  | none =>
    have HO := Lib.hid (oneK_none hp)
    have hale := above_le l x.1
    rw [HL.out] at hale
    have hlen : (oneK l x).length = n + 1 := by rw [oneK_none hp, List.length_append, List.length_cons, List.length_take, List.length_drop, HL.out]; omega
    have HLEN := Lib.hid hlen
    clear hp hlen
    simp only []
    go_wp2_with fail
    go_loopw [5] (fun s5 wr => ∃ (k : Nat), k ≤ abovePl l x.1 ∧ s5 = .int .i64 k ∧ ∃ nq, wr = (w.alloc (.cells #[.string x.1, .string x.2.1, .int .i64 x.2.2.1, .int .i64 x.2.2.2] 110)).drewN nq) (fun s5 _ => n + 1 - (intOf s5).toNat)
    case atStart => exact ⟨0, Nat.zero_le _, rfl, 0, rfl⟩
    case round =>
      obtain ⟨k, hk, rfl, mq, rfl⟩ := hrel
      obtain ⟨z0, z1, z2, z3⟩ := kn_cells hxa
      by_cases hlt : k < abovePl l x.1
      · have hkn : k < n := by omega
        obtain ⟨b, off, y, rfl, hbb, hy, hc0, hc1, hc2, hc3⟩ := Kns.cells hla hkn
        have hle : sLe y.1 x.1 = true := by
          have := List.not_of_lt_findIdx (xs := l) (p := fun (k : Kn) => !sLe k.1 x.1) (i := k) hlt
          have hy' := hy.out
          rw [List.getElem?_eq_getElem (by rw [HL.out]; exact hkn)] at hy'
          injection hy' with hy'
          rw [hy'] at this
          simpa using this
        have hle2 : (Op.bytesLess y.1.toList x.1.toList || y.1.toList == x.1.toList) = true := hle
        have i0 : (0 : Int) ≤ (k : Int) := by omega
        have i1 : (k : Int) < (n : Int) := by omega
        have HLT := Lib.hid hlt
        clear hlt hle
        cases h1 : Op.bytesLess y.1.toList x.1.toList
        · rw [h1, Bool.false_or] at hle2
          go_wp2_with fail
          go_quiet (fail)
          go_wp2_with fail
          go_roundw
          case rel => exact ⟨k + 1, HLT.out, by go_num, _, rfl⟩
          case measure => simp [intOf]; omega
        · clear hle2
          go_wp2_with fail
          go_quiet (fail)
          go_wp2_with fail
          go_roundw
          case rel => exact ⟨k + 1, HLT.out, by go_num, _, rfl⟩
          case measure => simp [intOf]; omega
      · obtain hkk : k = abovePl l x.1 := by omega
        rw [← hkk] at HO
        have hkn0 : k ≤ n := by omega
        clear hk hlt
        have HKK := Lib.hid hkk
        clear hkk
        --END
        have hd2 : k ≤ c := by omega
        by_cases hkn : k < n
        · obtain ⟨b, off, y, hA, hbb, hy, hc0, hc1, hc2, hc3⟩ := Kns.cells hla hkn
          have hle : sLe y.1 x.1 = false := above_at HKK.out.symm hy.out
          have hle2 : (Op.bytesLess y.1.toList x.1.toList || y.1.toList == x.1.toList) = false := hle
          have i0 : (0 : Int) ≤ (k : Int) := by omega
          have i1 : (k : Int) < (n : Int) := by omega
          rw [Bool.or_eq_false_iff] at hle2
          obtain ⟨h1, h2⟩ := hle2
          obtain ⟨g, rfl⟩ : ∃ g, A = some ⟨g, 0, none⟩ := by
            rcases ho.2.2.2.2 with h0 | ⟨g, _, h, _⟩
            · omega
            · exact ⟨g, h⟩
          obtain ⟨rfl, rfl⟩ : g = b ∧ off = 0 := by injection hA with hA; injection hA with e1 e2; exact ⟨e1, e2.symm⟩
          have hck : ¬ c = k := by omega
          simp only [Nat.zero_add] at hc0 hc1 hc2 hc3
          have i3 : ¬ c = (k : Int).toNat := by omega
          clear hle hA
          go_wp2_with fail
          go_quiet (fail)
          go_upto_region 9 with fail
          clear h1 h2 hc0 hc1 hc2 hc3
          have hS : Below (w.alloc (.cells #[.string x.1, .string x.2.1, .int .i64 x.2.2.1, .int .i64 x.2.2.2] 110)).heap.size (w.alloc (.cells #[.string x.1, .string x.2.1, .int .i64 x.2.2.1, .int .i64 x.2.2.2] 110)) ((((w.alloc (.cells #[.string x.1, .string x.2.1, .int .i64 x.2.2.1, .int .i64 x.2.2.2] 110)).drewN mq).drewN nq).drew) := ⟨rfl, rfl, rfl, Nat.le_refl _, fun _ _ => rfl⟩
          have hR := Kns.rest (c := c) hla hkn0 hnc; rw [if_neg hck] at hR
          have hP := Kns.pre hla hkn0
          refine wp_region_held_drew (S := (fun wx => Below (w.alloc (.cells #[.string x.1, .string x.2.1, .int .i64 x.2.2.1, .int .i64 x.2.2.2] 110)).heap.size (w.alloc (.cells #[.string x.1, .string x.2.1, .int .i64 x.2.2.1, .int .i64 x.2.2.2] 110)) wx)) (by kernel_rfl) ?_ (fun hHeld => ?_)
          · (try dsimp only); first | done | (exact hS)
          first
            | (refine wpAnyH_take (i := 1) (v := ?_) rfl (by kernel_rfl) (by kernel_rfl) (by kernel_rfl) (fun _ _ _ h => h) (Or.inl ⟨by rfl, ?_⟩) hHeld ?_; rotate_left; (intro wq hSw; (try dsimp only at hSw); go_simp; done))
            | (refine wpAnyH_take (i := 1) (v := ?_) rfl (by kernel_rfl) (by kernel_rfl) (by kernel_rfl) (fun _ _ _ h => h) (Or.inl ⟨by rfl, ?_⟩) hHeld ?_; rotate_left; (intro wq hSw; (try dsimp only at hSw); go_simp; with_reducible rfl))
            | refine wpAnyH_take (i := 1) (v := undef) rfl (by kernel_rfl) (by kernel_rfl) (by kernel_rfl) (fun _ _ _ h => h) (Or.inr ⟨by rfl, rfl⟩) hHeld ?_
          try simp only [Act.put, List.getElem_toArray, List.getElem_cons_succ, List.getElem_cons_zero, List.setIfInBounds_toArray, List.set_cons_zero, List.set_cons_succ]
          first
            | (refine wpAnyH_take (i := 2) (v := ?_) rfl (by kernel_rfl) (by kernel_rfl) (by kernel_rfl) (fun _ _ _ h => h) (Or.inl ⟨by rfl, ?_⟩) hHeld ?_; rotate_left; (intro wq hSw; (try dsimp only at hSw); go_simp; done))
            | (refine wpAnyH_take (i := 2) (v := ?_) rfl (by kernel_rfl) (by kernel_rfl) (by kernel_rfl) (fun _ _ _ h => h) (Or.inl ⟨by rfl, ?_⟩) hHeld ?_; rotate_left; (intro wq hSw; (try dsimp only at hSw); go_simp; with_reducible rfl))
            | refine wpAnyH_take (i := 2) (v := undef) rfl (by kernel_rfl) (by kernel_rfl) (by kernel_rfl) (fun _ _ _ h => h) (Or.inr ⟨by rfl, rfl⟩) hHeld ?_
          try simp only [Act.put, List.getElem_toArray, List.getElem_cons_succ, List.getElem_cons_zero, List.setIfInBounds_toArray, List.set_cons_zero, List.set_cons_succ]
          first
            | (refine wpAnyH_take (i := 5) (v := ?_) rfl (by kernel_rfl) (by kernel_rfl) (by kernel_rfl) (fun _ _ _ h => h) (Or.inl ⟨by rfl, ?_⟩) hHeld ?_; rotate_left; (intro wq hSw; (try dsimp only at hSw); obtain ⟨y0, y1, y2, y3⟩ := kn_cells ((hSw.block _ lx).trans hxa); go_simp; done))
            | (refine wpAnyH_take (i := 5) (v := ?_) rfl (by kernel_rfl) (by kernel_rfl) (by kernel_rfl) (fun _ _ _ h => h) (Or.inl ⟨by rfl, ?_⟩) hHeld ?_; rotate_left; (intro wq hSw; (try dsimp only at hSw); obtain ⟨y0, y1, y2, y3⟩ := kn_cells ((hSw.block _ lx).trans hxa); go_simp; with_reducible rfl))
            | refine wpAnyH_take (i := 5) (v := undef) rfl (by kernel_rfl) (by kernel_rfl) (by kernel_rfl) (fun _ _ _ h => h) (Or.inr ⟨by rfl, rfl⟩) hHeld ?_
          try simp only [Act.put, List.getElem_toArray, List.getElem_cons_succ, List.getElem_cons_zero, List.setIfInBounds_toArray, List.set_cons_zero, List.set_cons_succ]
          first
            | (refine wpAnyH_take (i := 8) (v := ?_) rfl (by kernel_rfl) (by kernel_rfl) (by kernel_rfl) (fun _ _ _ h => h) (Or.inl ⟨by rfl, ?_⟩) hHeld ?_; rotate_left; (intro wq hSw; (try dsimp only at hSw); go_simp; done))
            | (refine wpAnyH_take (i := 8) (v := ?_) rfl (by kernel_rfl) (by kernel_rfl) (by kernel_rfl) (fun _ _ _ h => h) (Or.inl ⟨by rfl, ?_⟩) hHeld ?_; rotate_left; (intro wq hSw; (try dsimp only at hSw); go_simp; with_reducible rfl))
            | refine wpAnyH_take (i := 8) (v := undef) rfl (by kernel_rfl) (by kernel_rfl) (by kernel_rfl) (fun _ _ _ h => h) (Or.inr ⟨by rfl, rfl⟩) hHeld ?_
          try simp only [Act.put, List.getElem_toArray, List.getElem_cons_succ, List.getElem_cons_zero, List.setIfInBounds_toArray, List.set_cons_zero, List.set_cons_succ]
          first
            | (refine wpAnyH_take (i := 9) (v := ?_) rfl (by kernel_rfl) (by kernel_rfl) (by kernel_rfl) (fun _ _ _ h => h) (Or.inl ⟨by rfl, ?_⟩) hHeld ?_; rotate_left; (intro wq hSw; (try dsimp only at hSw); go_simp; done))
            | (refine wpAnyH_take (i := 9) (v := ?_) rfl (by kernel_rfl) (by kernel_rfl) (by kernel_rfl) (fun _ _ _ h => h) (Or.inl ⟨by rfl, ?_⟩) hHeld ?_; rotate_left; (intro wq hSw; (try dsimp only at hSw); go_simp; with_reducible rfl))
            | refine wpAnyH_take (i := 9) (v := undef) rfl (by kernel_rfl) (by kernel_rfl) (by kernel_rfl) (fun _ _ _ h => h) (Or.inr ⟨by rfl, rfl⟩) hHeld ?_
          try simp only [Act.put, List.getElem_toArray, List.getElem_cons_succ, List.getElem_cons_zero, List.setIfInBounds_toArray, List.set_cons_zero, List.set_cons_succ]
          first
            | (refine wpAnyH_take (i := 3) (v := ?_) rfl (by kernel_rfl) (by kernel_rfl) (by kernel_rfl) (fun _ _ _ h => h) (Or.inl ⟨by rfl, ?_⟩) hHeld ?_; rotate_left; (intro wq hSw; (try dsimp only at hSw); go_simp; done))
            | (refine wpAnyH_take (i := 3) (v := ?_) rfl (by kernel_rfl) (by kernel_rfl) (by kernel_rfl) (fun _ _ _ h => h) (Or.inl ⟨by rfl, ?_⟩) hHeld ?_; rotate_left; (intro wq hSw; (try dsimp only at hSw); go_simp; with_reducible rfl))
            | refine wpAnyH_take (i := 3) (v := undef) rfl (by kernel_rfl) (by kernel_rfl) (by kernel_rfl) (fun _ _ _ h => h) (Or.inr ⟨by rfl, rfl⟩) hHeld ?_
          try simp only [Act.put, List.getElem_toArray, List.getElem_cons_succ, List.getElem_cons_zero, List.setIfInBounds_toArray, List.set_cons_zero, List.set_cons_succ]
          first
            | (refine wpAnyH_take (i := 10) (v := ?_) rfl (by kernel_rfl) (by kernel_rfl) (by kernel_rfl) (fun _ _ _ h => h) (Or.inl ⟨by rfl, ?_⟩) hHeld ?_; rotate_left; (intro wq hSw; (try dsimp only at hSw); go_simp; done))
            | (refine wpAnyH_take (i := 10) (v := ?_) rfl (by kernel_rfl) (by kernel_rfl) (by kernel_rfl) (fun _ _ _ h => h) (Or.inl ⟨by rfl, ?_⟩) hHeld ?_; rotate_left; (intro wq hSw; (try dsimp only at hSw); go_simp; with_reducible rfl))
            | refine wpAnyH_take (i := 10) (v := undef) rfl (by kernel_rfl) (by kernel_rfl) (by kernel_rfl) (fun _ _ _ h => h) (Or.inr ⟨by rfl, rfl⟩) hHeld ?_
          try simp only [Act.put, List.getElem_toArray, List.getElem_cons_succ, List.getElem_cons_zero, List.setIfInBounds_toArray, List.set_cons_zero, List.set_cons_succ]
          refine wpAnyH_ready (rs := [0, 6]) (by kernel_rfl) (by simp) ?_
          refine AllReadyH.cons rfl (fun K hK => ?_) ?_
          ·
            refine step_buildKn0 (by rfl) (by rfl) ?_; intro A0 wx hbx; replace hS := hS.trans (hbx.mono hS.size); (try replace hxB := (hxB.below hbx).more hbx.size); clear hbx
            refine hK.out _ _ ?_ (fun hHeld => ?_)
            · (try dsimp only); first | done | (exact hS)
            clear hK K
            try simp only [Act.put, List.getElem_toArray, List.getElem_cons_succ, List.getElem_cons_zero, List.setIfInBounds_toArray, List.set_cons_zero, List.set_cons_succ]
            refine wpAnyH_ready (rs := [4, 6]) (by kernel_rfl) (by simp) ?_
            refine AllReadyH.cons rfl (fun K hK => ?_) ?_
            ·
              refine step_appKn0 (by rfl) (.tmp 37) (.tmp 40) (by rfl) (w.alloc (.cells #[.string x.1, .string x.2.1, .int .i64 x.2.2.1, .int .i64 x.2.2.2] 110)).heap.size A0 (by rfl) _ _ k _ _ (by rfl) (hP.below hS) (by omega) hS.size ?_; intro A4 c4 w4 hoB hbx; replace hS := hS.trans (hbx.mono hS.size); (try replace hxB := (hxB.below hbx).more hbx.size); clear hbx
              refine hK.out _ _ ?_ (fun hHeld => ?_)
              · (try dsimp only); first | done | (exact hS)
              clear hK K
              try simp only [Act.put, List.getElem_toArray, List.getElem_cons_succ, List.getElem_cons_zero, List.setIfInBounds_toArray, List.set_cons_zero, List.set_cons_succ]
              refine wpAnyH_ready (rs := [6]) (by kernel_rfl) (by simp) ?_
              refine AllReadyH.cons rfl (fun K hK => ?_) AllReadyH.nil
              refine step_buildKn (by rfl) (.tmp 42) (by rfl) x (by rfl) ?_; intro B43 wx hxB hbx; replace hS := hS.trans (hbx.mono hS.size); (try replace hoB := OwR.below hoB hbx); clear hbx
              refine hK.out _ _ ?_ (fun hHeld => ?_)
              · (try dsimp only); first | done | (exact hS)
              clear hK K
              try simp only [Act.put, List.getElem_toArray, List.getElem_cons_succ, List.getElem_cons_zero, List.setIfInBounds_toArray, List.set_cons_zero, List.set_cons_succ]
              refine wpAnyH_ready (rs := [7]) (by kernel_rfl) (by simp) ?_
              refine AllReadyH.cons rfl (fun K hK => ?_) AllReadyH.nil
              refine step_appKn (by rfl) (.tmp 41) (.tmp 43) (by rfl) (w.alloc (.cells #[.string x.1, .string x.2.1, .int .i64 x.2.2.1, .int .i64 x.2.2.2] 110)).heap.size _ _ _ _ (by rfl) hoB _ _ _ _ [x] (by rfl) hxB (by omega) hS.size ?_; intro A7 c7 w7 ho7 hg7 hr7; replace hS := hS.grown hg7 hS.size (fun g hg => (Ow.row hoB.2 g hg).1); clear hg7 hr7
              refine hK.out _ _ ?_ (fun hHeld => ?_)
              · (try dsimp only); first | done | (exact hS)
              clear hK K
              try simp only [Act.put, List.getElem_toArray, List.getElem_cons_succ, List.getElem_cons_zero, List.setIfInBounds_toArray, List.set_cons_zero, List.set_cons_succ]
              refine wpAnyH_ready (rs := [11]) (by kernel_rfl) (by simp) ?_
              refine AllReadyH.cons rfl (fun K hK => ?_) AllReadyH.nil
              refine step_appKn (by rfl) (.tmp 44) (.tmp 47) (by rfl) (w.alloc (.cells #[.string x.1, .string x.2.1, .int .i64 x.2.2.1, .int .i64 x.2.2.2] 110)).heap.size _ _ _ _ (by rfl) ho7 _ _ _ _ _ (by rfl) (hR.below hS) (by omega) hS.size ?_; intro A9 c9 w9 ho9 hg9 hr9; replace hS := hS.grown hg9 hS.size (fun g hg => (Ow.row ho7.2 g hg).1); clear hg9 hr9
              refine hK.out _ _ ?_ (fun hHeld => ?_)
              · (try dsimp only); first | done | (exact hS)
              clear hK K
              try simp only [Act.put, List.getElem_toArray, List.getElem_cons_succ, List.getElem_cons_zero, List.setIfInBounds_toArray, List.set_cons_zero, List.set_cons_succ]
              first
                | (refine wpAnyH_take (i := 12) (v := ?_) rfl (by kernel_rfl) (by kernel_rfl) (by kernel_rfl) (fun _ _ _ h => h) (Or.inl ⟨by rfl, ?_⟩) hHeld ?_; rotate_left; (intro wq hSw; (try dsimp only at hSw); go_simp; done))
                | (refine wpAnyH_take (i := 12) (v := ?_) rfl (by kernel_rfl) (by kernel_rfl) (by kernel_rfl) (fun _ _ _ h => h) (Or.inl ⟨by rfl, ?_⟩) hHeld ?_; rotate_left; (intro wq hSw; (try dsimp only at hSw); go_simp; with_reducible rfl))
                | refine wpAnyH_take (i := 12) (v := undef) rfl (by kernel_rfl) (by kernel_rfl) (by kernel_rfl) (fun _ _ _ h => h) (Or.inr ⟨by rfl, rfl⟩) hHeld ?_
              try simp only [Act.put, List.getElem_toArray, List.getElem_cons_succ, List.getElem_cons_zero, List.setIfInBounds_toArray, List.set_cons_zero, List.set_cons_succ]
              refine wpAnyH_done (by kernel_rfl) ?_ _
              (have he : (oneK l x).length = k + 1 + (n - k) := (by have := HLEN.out; omega); have hl9 : l.take k ++ [x] ++ l.drop k = oneK l x := (by rw [HO.out, List.append_assoc]; rfl); rw [hl9, ← he] at ho9; rw [← he]; have HE := Lib.hid he; clear he hl9; go_wp2_with fail; go_ret; exact ⟨A9, c9, (by first | rfl | (rw [HLEN.out]; rfl)), ⟨ho9.1, Ow.rebase ho9.2 (Nat.le_of_lt lx)⟩, hbw.trans (hS.mono (Nat.le_of_lt lx))⟩)
            refine AllReadyH.cons rfl (fun K hK => ?_) AllReadyH.nil
            refine step_buildKn (by rfl) (.tmp 42) (by rfl) x (by rfl) ?_; intro B43 wx hxB hbx; replace hS := hS.trans (hbx.mono hS.size); (try replace hoB := OwR.below hoB hbx); clear hbx
            refine hK.out _ _ ?_ (fun hHeld => ?_)
            · (try dsimp only); first | done | (exact hS)
            clear hK K
            try simp only [Act.put, List.getElem_toArray, List.getElem_cons_succ, List.getElem_cons_zero, List.setIfInBounds_toArray, List.set_cons_zero, List.set_cons_succ]
            refine wpAnyH_ready (rs := [4]) (by kernel_rfl) (by simp) ?_
            refine AllReadyH.cons rfl (fun K hK => ?_) AllReadyH.nil
            refine step_appKn0 (by rfl) (.tmp 37) (.tmp 40) (by rfl) (w.alloc (.cells #[.string x.1, .string x.2.1, .int .i64 x.2.2.1, .int .i64 x.2.2.2] 110)).heap.size A0 (by rfl) _ _ k _ _ (by rfl) (hP.below hS) (by omega) hS.size ?_; intro A4 c4 w4 hoB hbx; replace hS := hS.trans (hbx.mono hS.size); (try replace hxB := (hxB.below hbx).more hbx.size); clear hbx
            refine hK.out _ _ ?_ (fun hHeld => ?_)
            · (try dsimp only); first | done | (exact hS)
            clear hK K
            try simp only [Act.put, List.getElem_toArray, List.getElem_cons_succ, List.getElem_cons_zero, List.setIfInBounds_toArray, List.set_cons_zero, List.set_cons_succ]
            refine wpAnyH_ready (rs := [7]) (by kernel_rfl) (by simp) ?_
            refine AllReadyH.cons rfl (fun K hK => ?_) AllReadyH.nil
            refine step_appKn (by rfl) (.tmp 41) (.tmp 43) (by rfl) (w.alloc (.cells #[.string x.1, .string x.2.1, .int .i64 x.2.2.1, .int .i64 x.2.2.2] 110)).heap.size _ _ _ _ (by rfl) hoB _ _ _ _ [x] (by rfl) hxB (by omega) hS.size ?_; intro A7 c7 w7 ho7 hg7 hr7; replace hS := hS.grown hg7 hS.size (fun g hg => (Ow.row hoB.2 g hg).1); clear hg7 hr7
            refine hK.out _ _ ?_ (fun hHeld => ?_)
            · (try dsimp only); first | done | (exact hS)
            clear hK K
            try simp only [Act.put, List.getElem_toArray, List.getElem_cons_succ, List.getElem_cons_zero, List.setIfInBounds_toArray, List.set_cons_zero, List.set_cons_succ]
            refine wpAnyH_ready (rs := [11]) (by kernel_rfl) (by simp) ?_
            refine AllReadyH.cons rfl (fun K hK => ?_) AllReadyH.nil
            refine step_appKn (by rfl) (.tmp 44) (.tmp 47) (by rfl) (w.alloc (.cells #[.string x.1, .string x.2.1, .int .i64 x.2.2.1, .int .i64 x.2.2.2] 110)).heap.size _ _ _ _ (by rfl) ho7 _ _ _ _ _ (by rfl) (hR.below hS) (by omega) hS.size ?_; intro A9 c9 w9 ho9 hg9 hr9; replace hS := hS.grown hg9 hS.size (fun g hg => (Ow.row ho7.2 g hg).1); clear hg9 hr9
            refine hK.out _ _ ?_ (fun hHeld => ?_)
            · (try dsimp only); first | done | (exact hS)
            clear hK K
            try simp only [Act.put, List.getElem_toArray, List.getElem_cons_succ, List.getElem_cons_zero, List.setIfInBounds_toArray, List.set_cons_zero, List.set_cons_succ]
            first
              | (refine wpAnyH_take (i := 12) (v := ?_) rfl (by kernel_rfl) (by kernel_rfl) (by kernel_rfl) (fun _ _ _ h => h) (Or.inl ⟨by rfl, ?_⟩) hHeld ?_; rotate_left; (intro wq hSw; (try dsimp only at hSw); go_simp; done))
              | (refine wpAnyH_take (i := 12) (v := ?_) rfl (by kernel_rfl) (by kernel_rfl) (by kernel_rfl) (fun _ _ _ h => h) (Or.inl ⟨by rfl, ?_⟩) hHeld ?_; rotate_left; (intro wq hSw; (try dsimp only at hSw); go_simp; with_reducible rfl))
              | refine wpAnyH_take (i := 12) (v := undef) rfl (by kernel_rfl) (by kernel_rfl) (by kernel_rfl) (fun _ _ _ h => h) (Or.inr ⟨by rfl, rfl⟩) hHeld ?_
            try simp only [Act.put, List.getElem_toArray, List.getElem_cons_succ, List.getElem_cons_zero, List.setIfInBounds_toArray, List.set_cons_zero, List.set_cons_succ]
            refine wpAnyH_done (by kernel_rfl) ?_ _
            (have he : (oneK l x).length = k + 1 + (n - k) := (by have := HLEN.out; omega); have hl9 : l.take k ++ [x] ++ l.drop k = oneK l x := (by rw [HO.out, List.append_assoc]; rfl); rw [hl9, ← he] at ho9; rw [← he]; have HE := Lib.hid he; clear he hl9; go_wp2_with fail; go_ret; exact ⟨A9, c9, (by first | rfl | (rw [HLEN.out]; rfl)), ⟨ho9.1, Ow.rebase ho9.2 (Nat.le_of_lt lx)⟩, hbw.trans (hS.mono (Nat.le_of_lt lx))⟩)
          refine AllReadyH.cons rfl (fun K hK => ?_) AllReadyH.nil
          refine step_buildKn (by rfl) (.tmp 42) (by rfl) x (by rfl) ?_; intro B43 wx hxB hbx; replace hS := hS.trans (hbx.mono hS.size); (try replace hoB := OwR.below hoB hbx); clear hbx
          refine hK.out _ _ ?_ (fun hHeld => ?_)
          · (try dsimp only); first | done | (exact hS)
          clear hK K
          try simp only [Act.put, List.getElem_toArray, List.getElem_cons_succ, List.getElem_cons_zero, List.setIfInBounds_toArray, List.set_cons_zero, List.set_cons_succ]
          refine wpAnyH_ready (rs := [0]) (by kernel_rfl) (by simp) ?_
          refine AllReadyH.cons rfl (fun K hK => ?_) AllReadyH.nil
          refine step_buildKn0 (by rfl) (by rfl) ?_; intro A0 wx hbx; replace hS := hS.trans (hbx.mono hS.size); (try replace hxB := (hxB.below hbx).more hbx.size); clear hbx
          refine hK.out _ _ ?_ (fun hHeld => ?_)
          · (try dsimp only); first | done | (exact hS)
          clear hK K
          try simp only [Act.put, List.getElem_toArray, List.getElem_cons_succ, List.getElem_cons_zero, List.setIfInBounds_toArray, List.set_cons_zero, List.set_cons_succ]
          refine wpAnyH_ready (rs := [4]) (by kernel_rfl) (by simp) ?_
          refine AllReadyH.cons rfl (fun K hK => ?_) AllReadyH.nil
          refine step_appKn0 (by rfl) (.tmp 37) (.tmp 40) (by rfl) (w.alloc (.cells #[.string x.1, .string x.2.1, .int .i64 x.2.2.1, .int .i64 x.2.2.2] 110)).heap.size A0 (by rfl) _ _ k _ _ (by rfl) (hP.below hS) (by omega) hS.size ?_; intro A4 c4 w4 hoB hbx; replace hS := hS.trans (hbx.mono hS.size); (try replace hxB := (hxB.below hbx).more hbx.size); clear hbx
          refine hK.out _ _ ?_ (fun hHeld => ?_)
          · (try dsimp only); first | done | (exact hS)
          clear hK K
          try simp only [Act.put, List.getElem_toArray, List.getElem_cons_succ, List.getElem_cons_zero, List.setIfInBounds_toArray, List.set_cons_zero, List.set_cons_succ]
          refine wpAnyH_ready (rs := [7]) (by kernel_rfl) (by simp) ?_
          refine AllReadyH.cons rfl (fun K hK => ?_) AllReadyH.nil
          refine step_appKn (by rfl) (.tmp 41) (.tmp 43) (by rfl) (w.alloc (.cells #[.string x.1, .string x.2.1, .int .i64 x.2.2.1, .int .i64 x.2.2.2] 110)).heap.size _ _ _ _ (by rfl) hoB _ _ _ _ [x] (by rfl) hxB (by omega) hS.size ?_; intro A7 c7 w7 ho7 hg7 hr7; replace hS := hS.grown hg7 hS.size (fun g hg => (Ow.row hoB.2 g hg).1); clear hg7 hr7
          refine hK.out _ _ ?_ (fun hHeld => ?_)
          · (try dsimp only); first | done | (exact hS)
          clear hK K
          try simp only [Act.put, List.getElem_toArray, List.getElem_cons_succ, List.getElem_cons_zero, List.setIfInBounds_toArray, List.set_cons_zero, List.set_cons_succ]
          refine wpAnyH_ready (rs := [11]) (by kernel_rfl) (by simp) ?_
          refine AllReadyH.cons rfl (fun K hK => ?_) AllReadyH.nil
          refine step_appKn (by rfl) (.tmp 44) (.tmp 47) (by rfl) (w.alloc (.cells #[.string x.1, .string x.2.1, .int .i64 x.2.2.1, .int .i64 x.2.2.2] 110)).heap.size _ _ _ _ (by rfl) ho7 _ _ _ _ _ (by rfl) (hR.below hS) (by omega) hS.size ?_; intro A9 c9 w9 ho9 hg9 hr9; replace hS := hS.grown hg9 hS.size (fun g hg => (Ow.row ho7.2 g hg).1); clear hg9 hr9
          refine hK.out _ _ ?_ (fun hHeld => ?_)
          · (try dsimp only); first | done | (exact hS)
          clear hK K
          try simp only [Act.put, List.getElem_toArray, List.getElem_cons_succ, List.getElem_cons_zero, List.setIfInBounds_toArray, List.set_cons_zero, List.set_cons_succ]
          first
            | (refine wpAnyH_take (i := 12) (v := ?_) rfl (by kernel_rfl) (by kernel_rfl) (by kernel_rfl) (fun _ _ _ h => h) (Or.inl ⟨by rfl, ?_⟩) hHeld ?_; rotate_left; (intro wq hSw; (try dsimp only at hSw); go_simp; done))
            | (refine wpAnyH_take (i := 12) (v := ?_) rfl (by kernel_rfl) (by kernel_rfl) (by kernel_rfl) (fun _ _ _ h => h) (Or.inl ⟨by rfl, ?_⟩) hHeld ?_; rotate_left; (intro wq hSw; (try dsimp only at hSw); go_simp; with_reducible rfl))
            | refine wpAnyH_take (i := 12) (v := undef) rfl (by kernel_rfl) (by kernel_rfl) (by kernel_rfl) (fun _ _ _ h => h) (Or.inr ⟨by rfl, rfl⟩) hHeld ?_
          try simp only [Act.put, List.getElem_toArray, List.getElem_cons_succ, List.getElem_cons_zero, List.setIfInBounds_toArray, List.set_cons_zero, List.set_cons_succ]
          refine wpAnyH_done (by kernel_rfl) ?_ _
          (have he : (oneK l x).length = k + 1 + (n - k) := (by have := HLEN.out; omega); have hl9 : l.take k ++ [x] ++ l.drop k = oneK l x := (by rw [HO.out, List.append_assoc]; rfl); rw [hl9, ← he] at ho9; rw [← he]; have HE := Lib.hid he; clear he hl9; go_wp2_with fail; go_ret; exact ⟨A9, c9, (by first | rfl | (rw [HLEN.out]; rfl)), ⟨ho9.1, Ow.rebase ho9.2 (Nat.le_of_lt lx)⟩, hbw.trans (hS.mono (Nat.le_of_lt lx))⟩)
        · obtain rfl : k = n := by omega
          have hd : decide ((k : Int) < (k : Int)) = false := by simp
          clear hkn
          by_cases hc0 : c = 0
          · have hk0 : k = 0 := by omega
            have HL0 : l = [] := List.eq_nil_of_length_eq_zero (by rw [HL.out]; exact hk0)
            subst hc0 hk0
            rcases A with _ | a
            all_goals
              go_wp2_with fail
              go_quiet (fail)
              go_upto_region 9 with fail
              have hS : Below (w.alloc (.cells #[.string x.1, .string x.2.1, .int .i64 x.2.2.1, .int .i64 x.2.2.2] 110)).heap.size (w.alloc (.cells #[.string x.1, .string x.2.1, .int .i64 x.2.2.1, .int .i64 x.2.2.2] 110)) ((((w.alloc (.cells #[.string x.1, .string x.2.1, .int .i64 x.2.2.1, .int .i64 x.2.2.2] 110)).drewN mq).drewN nq).drew) := ⟨rfl, rfl, rfl, Nat.le_refl _, fun _ _ => rfl⟩
              have hR := fun (AX : Option Addr) => (show Kns (w.alloc (.cells #[.string x.1, .string x.2.1, .int .i64 x.2.2.1, .int .i64 x.2.2.2] 110)) (w.alloc (.cells #[.string x.1, .string x.2.1, .int .i64 x.2.2.1, .int .i64 x.2.2.2] 110)).heap.size AX (0 - 0) (l.drop 0) from by rw [HL0]; exact Recs.nil_ _ _ _)
              have hP := Kns.pre hla hkn0
              refine wp_region_held_drew (S := (fun wx => Below (w.alloc (.cells #[.string x.1, .string x.2.1, .int .i64 x.2.2.1, .int .i64 x.2.2.2] 110)).heap.size (w.alloc (.cells #[.string x.1, .string x.2.1, .int .i64 x.2.2.1, .int .i64 x.2.2.2] 110)) wx)) (by kernel_rfl) ?_ (fun hHeld => ?_)
              · (try dsimp only); first | done | (exact hS)
              first
                | (refine wpAnyH_take (i := 1) (v := ?_) rfl (by kernel_rfl) (by kernel_rfl) (by kernel_rfl) (fun _ _ _ h => h) (Or.inl ⟨by rfl, ?_⟩) hHeld ?_; rotate_left; (intro wq hSw; (try dsimp only at hSw); go_simp; done))
                | (refine wpAnyH_take (i := 1) (v := ?_) rfl (by kernel_rfl) (by kernel_rfl) (by kernel_rfl) (fun _ _ _ h => h) (Or.inl ⟨by rfl, ?_⟩) hHeld ?_; rotate_left; (intro wq hSw; (try dsimp only at hSw); go_simp; with_reducible rfl))
                | refine wpAnyH_take (i := 1) (v := undef) rfl (by kernel_rfl) (by kernel_rfl) (by kernel_rfl) (fun _ _ _ h => h) (Or.inr ⟨by rfl, rfl⟩) hHeld ?_
              try simp only [Act.put, List.getElem_toArray, List.getElem_cons_succ, List.getElem_cons_zero, List.setIfInBounds_toArray, List.set_cons_zero, List.set_cons_succ]
              first
                | (refine wpAnyH_take (i := 2) (v := ?_) rfl (by kernel_rfl) (by kernel_rfl) (by kernel_rfl) (fun _ _ _ h => h) (Or.inl ⟨by rfl, ?_⟩) hHeld ?_; rotate_left; (intro wq hSw; (try dsimp only at hSw); go_simp; done))
                | (refine wpAnyH_take (i := 2) (v := ?_) rfl (by kernel_rfl) (by kernel_rfl) (by kernel_rfl) (fun _ _ _ h => h) (Or.inl ⟨by rfl, ?_⟩) hHeld ?_; rotate_left; (intro wq hSw; (try dsimp only at hSw); go_simp; with_reducible rfl))
                | refine wpAnyH_take (i := 2) (v := undef) rfl (by kernel_rfl) (by kernel_rfl) (by kernel_rfl) (fun _ _ _ h => h) (Or.inr ⟨by rfl, rfl⟩) hHeld ?_
              try simp only [Act.put, List.getElem_toArray, List.getElem_cons_succ, List.getElem_cons_zero, List.setIfInBounds_toArray, List.set_cons_zero, List.set_cons_succ]
              first
                | (refine wpAnyH_take (i := 5) (v := ?_) rfl (by kernel_rfl) (by kernel_rfl) (by kernel_rfl) (fun _ _ _ h => h) (Or.inl ⟨by rfl, ?_⟩) hHeld ?_; rotate_left; (intro wq hSw; (try dsimp only at hSw); obtain ⟨y0, y1, y2, y3⟩ := kn_cells ((hSw.block _ lx).trans hxa); go_simp; done))
                | (refine wpAnyH_take (i := 5) (v := ?_) rfl (by kernel_rfl) (by kernel_rfl) (by kernel_rfl) (fun _ _ _ h => h) (Or.inl ⟨by rfl, ?_⟩) hHeld ?_; rotate_left; (intro wq hSw; (try dsimp only at hSw); obtain ⟨y0, y1, y2, y3⟩ := kn_cells ((hSw.block _ lx).trans hxa); go_simp; with_reducible rfl))
                | refine wpAnyH_take (i := 5) (v := undef) rfl (by kernel_rfl) (by kernel_rfl) (by kernel_rfl) (fun _ _ _ h => h) (Or.inr ⟨by rfl, rfl⟩) hHeld ?_
              try simp only [Act.put, List.getElem_toArray, List.getElem_cons_succ, List.getElem_cons_zero, List.setIfInBounds_toArray, List.set_cons_zero, List.set_cons_succ]
              first
                | (refine wpAnyH_take (i := 8) (v := ?_) rfl (by kernel_rfl) (by kernel_rfl) (by kernel_rfl) (fun _ _ _ h => h) (Or.inl ⟨by rfl, ?_⟩) hHeld ?_; rotate_left; (intro wq hSw; (try dsimp only at hSw); go_simp; done))
                | (refine wpAnyH_take (i := 8) (v := ?_) rfl (by kernel_rfl) (by kernel_rfl) (by kernel_rfl) (fun _ _ _ h => h) (Or.inl ⟨by rfl, ?_⟩) hHeld ?_; rotate_left; (intro wq hSw; (try dsimp only at hSw); go_simp; with_reducible rfl))
                | refine wpAnyH_take (i := 8) (v := undef) rfl (by kernel_rfl) (by kernel_rfl) (by kernel_rfl) (fun _ _ _ h => h) (Or.inr ⟨by rfl, rfl⟩) hHeld ?_
              try simp only [Act.put, List.getElem_toArray, List.getElem_cons_succ, List.getElem_cons_zero, List.setIfInBounds_toArray, List.set_cons_zero, List.set_cons_succ]
              first
                | (refine wpAnyH_take (i := 9) (v := ?_) rfl (by kernel_rfl) (by kernel_rfl) (by kernel_rfl) (fun _ _ _ h => h) (Or.inl ⟨by rfl, ?_⟩) hHeld ?_; rotate_left; (intro wq hSw; (try dsimp only at hSw); go_simp; done))
                | (refine wpAnyH_take (i := 9) (v := ?_) rfl (by kernel_rfl) (by kernel_rfl) (by kernel_rfl) (fun _ _ _ h => h) (Or.inl ⟨by rfl, ?_⟩) hHeld ?_; rotate_left; (intro wq hSw; (try dsimp only at hSw); go_simp; with_reducible rfl))
                | refine wpAnyH_take (i := 9) (v := undef) rfl (by kernel_rfl) (by kernel_rfl) (by kernel_rfl) (fun _ _ _ h => h) (Or.inr ⟨by rfl, rfl⟩) hHeld ?_
              try simp only [Act.put, List.getElem_toArray, List.getElem_cons_succ, List.getElem_cons_zero, List.setIfInBounds_toArray, List.set_cons_zero, List.set_cons_succ]
              first
                | (refine wpAnyH_take (i := 3) (v := ?_) rfl (by kernel_rfl) (by kernel_rfl) (by kernel_rfl) (fun _ _ _ h => h) (Or.inl ⟨by rfl, ?_⟩) hHeld ?_; rotate_left; (intro wq hSw; (try dsimp only at hSw); go_simp; done))
                | (refine wpAnyH_take (i := 3) (v := ?_) rfl (by kernel_rfl) (by kernel_rfl) (by kernel_rfl) (fun _ _ _ h => h) (Or.inl ⟨by rfl, ?_⟩) hHeld ?_; rotate_left; (intro wq hSw; (try dsimp only at hSw); go_simp; with_reducible rfl))
                | refine wpAnyH_take (i := 3) (v := undef) rfl (by kernel_rfl) (by kernel_rfl) (by kernel_rfl) (fun _ _ _ h => h) (Or.inr ⟨by rfl, rfl⟩) hHeld ?_
              try simp only [Act.put, List.getElem_toArray, List.getElem_cons_succ, List.getElem_cons_zero, List.setIfInBounds_toArray, List.set_cons_zero, List.set_cons_succ]
              first
                | (refine wpAnyH_take (i := 10) (v := ?_) rfl (by kernel_rfl) (by kernel_rfl) (by kernel_rfl) (fun _ _ _ h => h) (Or.inl ⟨by rfl, ?_⟩) hHeld ?_; rotate_left; (intro wq hSw; (try dsimp only at hSw); go_simp; done))
                | (refine wpAnyH_take (i := 10) (v := ?_) rfl (by kernel_rfl) (by kernel_rfl) (by kernel_rfl) (fun _ _ _ h => h) (Or.inl ⟨by rfl, ?_⟩) hHeld ?_; rotate_left; (intro wq hSw; (try dsimp only at hSw); go_simp; with_reducible rfl))
                | refine wpAnyH_take (i := 10) (v := undef) rfl (by kernel_rfl) (by kernel_rfl) (by kernel_rfl) (fun _ _ _ h => h) (Or.inr ⟨by rfl, rfl⟩) hHeld ?_
              try simp only [Act.put, List.getElem_toArray, List.getElem_cons_succ, List.getElem_cons_zero, List.setIfInBounds_toArray, List.set_cons_zero, List.set_cons_succ]
              refine wpAnyH_ready (rs := [0, 6]) (by kernel_rfl) (by simp) ?_
              refine AllReadyH.cons rfl (fun K hK => ?_) ?_
              ·
                refine step_buildKn0 (by rfl) (by rfl) ?_; intro A0 wx hbx; replace hS := hS.trans (hbx.mono hS.size); (try replace hxB := (hxB.below hbx).more hbx.size); clear hbx
                refine hK.out _ _ ?_ (fun hHeld => ?_)
                · (try dsimp only); first | done | (exact hS)
                clear hK K
                try simp only [Act.put, List.getElem_toArray, List.getElem_cons_succ, List.getElem_cons_zero, List.setIfInBounds_toArray, List.set_cons_zero, List.set_cons_succ]
                refine wpAnyH_ready (rs := [4, 6]) (by kernel_rfl) (by simp) ?_
                refine AllReadyH.cons rfl (fun K hK => ?_) ?_
                ·
                  refine step_appKn0 (by rfl) (.tmp 37) (.tmp 40) (by rfl) (w.alloc (.cells #[.string x.1, .string x.2.1, .int .i64 x.2.2.1, .int .i64 x.2.2.2] 110)).heap.size A0 (by rfl) _ _ 0 _ _ (by rfl) (hP.below hS) (by omega) hS.size ?_; intro A4 c4 w4 hoB hbx; replace hS := hS.trans (hbx.mono hS.size); (try replace hxB := (hxB.below hbx).more hbx.size); clear hbx
                  refine hK.out _ _ ?_ (fun hHeld => ?_)
                  · (try dsimp only); first | done | (exact hS)
                  clear hK K
                  try simp only [Act.put, List.getElem_toArray, List.getElem_cons_succ, List.getElem_cons_zero, List.setIfInBounds_toArray, List.set_cons_zero, List.set_cons_succ]
                  refine wpAnyH_ready (rs := [6]) (by kernel_rfl) (by simp) ?_
                  refine AllReadyH.cons rfl (fun K hK => ?_) AllReadyH.nil
                  refine step_buildKn (by rfl) (.tmp 42) (by rfl) x (by rfl) ?_; intro B43 wx hxB hbx; replace hS := hS.trans (hbx.mono hS.size); (try replace hoB := OwR.below hoB hbx); clear hbx
                  refine hK.out _ _ ?_ (fun hHeld => ?_)
                  · (try dsimp only); first | done | (exact hS)
                  clear hK K
                  try simp only [Act.put, List.getElem_toArray, List.getElem_cons_succ, List.getElem_cons_zero, List.setIfInBounds_toArray, List.set_cons_zero, List.set_cons_succ]
                  refine wpAnyH_ready (rs := [7]) (by kernel_rfl) (by simp) ?_
                  refine AllReadyH.cons rfl (fun K hK => ?_) AllReadyH.nil
                  refine step_appKn (by rfl) (.tmp 41) (.tmp 43) (by rfl) (w.alloc (.cells #[.string x.1, .string x.2.1, .int .i64 x.2.2.1, .int .i64 x.2.2.2] 110)).heap.size _ _ _ _ (by rfl) hoB _ _ _ _ [x] (by rfl) hxB (by omega) hS.size ?_; intro A7 c7 w7 ho7 hg7 hr7; replace hS := hS.grown hg7 hS.size (fun g hg => (Ow.row hoB.2 g hg).1); clear hg7 hr7
                  refine hK.out _ _ ?_ (fun hHeld => ?_)
                  · (try dsimp only); first | done | (exact hS)
                  clear hK K
                  try simp only [Act.put, List.getElem_toArray, List.getElem_cons_succ, List.getElem_cons_zero, List.setIfInBounds_toArray, List.set_cons_zero, List.set_cons_succ]
                  refine wpAnyH_ready (rs := [11]) (by kernel_rfl) (by simp) ?_
                  refine AllReadyH.cons rfl (fun K hK => ?_) AllReadyH.nil
                  refine step_appKn (by rfl) (.tmp 44) (.tmp 47) (by rfl) (w.alloc (.cells #[.string x.1, .string x.2.1, .int .i64 x.2.2.1, .int .i64 x.2.2.2] 110)).heap.size _ _ _ _ (by rfl) ho7 _ _ _ _ _ (by rfl) ((hR _).below hS) (by omega) hS.size ?_; intro A9 c9 w9 ho9 hg9 hr9; replace hS := hS.grown hg9 hS.size (fun g hg => (Ow.row ho7.2 g hg).1); clear hg9 hr9
                  refine hK.out _ _ ?_ (fun hHeld => ?_)
                  · (try dsimp only); first | done | (exact hS)
                  clear hK K
                  try simp only [Act.put, List.getElem_toArray, List.getElem_cons_succ, List.getElem_cons_zero, List.setIfInBounds_toArray, List.set_cons_zero, List.set_cons_succ]
                  first
                    | (refine wpAnyH_take (i := 12) (v := ?_) rfl (by kernel_rfl) (by kernel_rfl) (by kernel_rfl) (fun _ _ _ h => h) (Or.inl ⟨by rfl, ?_⟩) hHeld ?_; rotate_left; (intro wq hSw; (try dsimp only at hSw); go_simp; done))
                    | (refine wpAnyH_take (i := 12) (v := ?_) rfl (by kernel_rfl) (by kernel_rfl) (by kernel_rfl) (fun _ _ _ h => h) (Or.inl ⟨by rfl, ?_⟩) hHeld ?_; rotate_left; (intro wq hSw; (try dsimp only at hSw); go_simp; with_reducible rfl))
                    | refine wpAnyH_take (i := 12) (v := undef) rfl (by kernel_rfl) (by kernel_rfl) (by kernel_rfl) (fun _ _ _ h => h) (Or.inr ⟨by rfl, rfl⟩) hHeld ?_
                  try simp only [Act.put, List.getElem_toArray, List.getElem_cons_succ, List.getElem_cons_zero, List.setIfInBounds_toArray, List.set_cons_zero, List.set_cons_succ]
                  refine wpAnyH_done (by kernel_rfl) ?_ _
                  (have he : (oneK l x).length = 0 + 1 + (0 - 0) := (by have := HLEN.out; omega); have hl9 : l.take 0 ++ [x] ++ l.drop 0 = oneK l x := (by rw [HO.out, List.append_assoc]; rfl); rw [hl9, ← he] at ho9; rw [← he]; have HE := Lib.hid he; clear he hl9; go_wp2_with fail; go_ret; exact ⟨A9, c9, (by first | rfl | (rw [HLEN.out]; rfl)), ⟨ho9.1, Ow.rebase ho9.2 (Nat.le_of_lt lx)⟩, hbw.trans (hS.mono (Nat.le_of_lt lx))⟩)
                refine AllReadyH.cons rfl (fun K hK => ?_) AllReadyH.nil
                refine step_buildKn (by rfl) (.tmp 42) (by rfl) x (by rfl) ?_; intro B43 wx hxB hbx; replace hS := hS.trans (hbx.mono hS.size); (try replace hoB := OwR.below hoB hbx); clear hbx
                refine hK.out _ _ ?_ (fun hHeld => ?_)
                · (try dsimp only); first | done | (exact hS)
                clear hK K
                try simp only [Act.put, List.getElem_toArray, List.getElem_cons_succ, List.getElem_cons_zero, List.setIfInBounds_toArray, List.set_cons_zero, List.set_cons_succ]
                refine wpAnyH_ready (rs := [4]) (by kernel_rfl) (by simp) ?_
                refine AllReadyH.cons rfl (fun K hK => ?_) AllReadyH.nil
                refine step_appKn0 (by rfl) (.tmp 37) (.tmp 40) (by rfl) (w.alloc (.cells #[.string x.1, .string x.2.1, .int .i64 x.2.2.1, .int .i64 x.2.2.2] 110)).heap.size A0 (by rfl) _ _ 0 _ _ (by rfl) (hP.below hS) (by omega) hS.size ?_; intro A4 c4 w4 hoB hbx; replace hS := hS.trans (hbx.mono hS.size); (try replace hxB := (hxB.below hbx).more hbx.size); clear hbx
                refine hK.out _ _ ?_ (fun hHeld => ?_)
                · (try dsimp only); first | done | (exact hS)
                clear hK K
                try simp only [Act.put, List.getElem_toArray, List.getElem_cons_succ, List.getElem_cons_zero, List.setIfInBounds_toArray, List.set_cons_zero, List.set_cons_succ]
                refine wpAnyH_ready (rs := [7]) (by kernel_rfl) (by simp) ?_
                refine AllReadyH.cons rfl (fun K hK => ?_) AllReadyH.nil
                refine step_appKn (by rfl) (.tmp 41) (.tmp 43) (by rfl) (w.alloc (.cells #[.string x.1, .string x.2.1, .int .i64 x.2.2.1, .int .i64 x.2.2.2] 110)).heap.size _ _ _ _ (by rfl) hoB _ _ _ _ [x] (by rfl) hxB (by omega) hS.size ?_; intro A7 c7 w7 ho7 hg7 hr7; replace hS := hS.grown hg7 hS.size (fun g hg => (Ow.row hoB.2 g hg).1); clear hg7 hr7
                refine hK.out _ _ ?_ (fun hHeld => ?_)
                · (try dsimp only); first | done | (exact hS)
                clear hK K
                try simp only [Act.put, List.getElem_toArray, List.getElem_cons_succ, List.getElem_cons_zero, List.setIfInBounds_toArray, List.set_cons_zero, List.set_cons_succ]
                refine wpAnyH_ready (rs := [11]) (by kernel_rfl) (by simp) ?_
                refine AllReadyH.cons rfl (fun K hK => ?_) AllReadyH.nil
                refine step_appKn (by rfl) (.tmp 44) (.tmp 47) (by rfl) (w.alloc (.cells #[.string x.1, .string x.2.1, .int .i64 x.2.2.1, .int .i64 x.2.2.2] 110)).heap.size _ _ _ _ (by rfl) ho7 _ _ _ _ _ (by rfl) ((hR _).below hS) (by omega) hS.size ?_; intro A9 c9 w9 ho9 hg9 hr9; replace hS := hS.grown hg9 hS.size (fun g hg => (Ow.row ho7.2 g hg).1); clear hg9 hr9
                refine hK.out _ _ ?_ (fun hHeld => ?_)
                · (try dsimp only); first | done | (exact hS)
                clear hK K
                try simp only [Act.put, List.getElem_toArray, List.getElem_cons_succ, List.getElem_cons_zero, List.setIfInBounds_toArray, List.set_cons_zero, List.set_cons_succ]
                first
                  | (refine wpAnyH_take (i := 12) (v := ?_) rfl (by kernel_rfl) (by kernel_rfl) (by kernel_rfl) (fun _ _ _ h => h) (Or.inl ⟨by rfl, ?_⟩) hHeld ?_; rotate_left; (intro wq hSw; (try dsimp only at hSw); go_simp; done))
                  | (refine wpAnyH_take (i := 12) (v := ?_) rfl (by kernel_rfl) (by kernel_rfl) (by kernel_rfl) (fun _ _ _ h => h) (Or.inl ⟨by rfl, ?_⟩) hHeld ?_; rotate_left; (intro wq hSw; (try dsimp only at hSw); go_simp; with_reducible rfl))
                  | refine wpAnyH_take (i := 12) (v := undef) rfl (by kernel_rfl) (by kernel_rfl) (by kernel_rfl) (fun _ _ _ h => h) (Or.inr ⟨by rfl, rfl⟩) hHeld ?_
                try simp only [Act.put, List.getElem_toArray, List.getElem_cons_succ, List.getElem_cons_zero, List.setIfInBounds_toArray, List.set_cons_zero, List.set_cons_succ]
                refine wpAnyH_done (by kernel_rfl) ?_ _
                (have he : (oneK l x).length = 0 + 1 + (0 - 0) := (by have := HLEN.out; omega); have hl9 : l.take 0 ++ [x] ++ l.drop 0 = oneK l x := (by rw [HO.out, List.append_assoc]; rfl); rw [hl9, ← he] at ho9; rw [← he]; have HE := Lib.hid he; clear he hl9; go_wp2_with fail; go_ret; exact ⟨A9, c9, (by first | rfl | (rw [HLEN.out]; rfl)), ⟨ho9.1, Ow.rebase ho9.2 (Nat.le_of_lt lx)⟩, hbw.trans (hS.mono (Nat.le_of_lt lx))⟩)
              refine AllReadyH.cons rfl (fun K hK => ?_) AllReadyH.nil
              refine step_buildKn (by rfl) (.tmp 42) (by rfl) x (by rfl) ?_; intro B43 wx hxB hbx; replace hS := hS.trans (hbx.mono hS.size); (try replace hoB := OwR.below hoB hbx); clear hbx
              refine hK.out _ _ ?_ (fun hHeld => ?_)
              · (try dsimp only); first | done | (exact hS)
              clear hK K
              try simp only [Act.put, List.getElem_toArray, List.getElem_cons_succ, List.getElem_cons_zero, List.setIfInBounds_toArray, List.set_cons_zero, List.set_cons_succ]
              refine wpAnyH_ready (rs := [0]) (by kernel_rfl) (by simp) ?_
              refine AllReadyH.cons rfl (fun K hK => ?_) AllReadyH.nil
              refine step_buildKn0 (by rfl) (by rfl) ?_; intro A0 wx hbx; replace hS := hS.trans (hbx.mono hS.size); (try replace hxB := (hxB.below hbx).more hbx.size); clear hbx
              refine hK.out _ _ ?_ (fun hHeld => ?_)
              · (try dsimp only); first | done | (exact hS)
              clear hK K
              try simp only [Act.put, List.getElem_toArray, List.getElem_cons_succ, List.getElem_cons_zero, List.setIfInBounds_toArray, List.set_cons_zero, List.set_cons_succ]
              refine wpAnyH_ready (rs := [4]) (by kernel_rfl) (by simp) ?_
              refine AllReadyH.cons rfl (fun K hK => ?_) AllReadyH.nil
              refine step_appKn0 (by rfl) (.tmp 37) (.tmp 40) (by rfl) (w.alloc (.cells #[.string x.1, .string x.2.1, .int .i64 x.2.2.1, .int .i64 x.2.2.2] 110)).heap.size A0 (by rfl) _ _ 0 _ _ (by rfl) (hP.below hS) (by omega) hS.size ?_; intro A4 c4 w4 hoB hbx; replace hS := hS.trans (hbx.mono hS.size); (try replace hxB := (hxB.below hbx).more hbx.size); clear hbx
              refine hK.out _ _ ?_ (fun hHeld => ?_)
              · (try dsimp only); first | done | (exact hS)
              clear hK K
              try simp only [Act.put, List.getElem_toArray, List.getElem_cons_succ, List.getElem_cons_zero, List.setIfInBounds_toArray, List.set_cons_zero, List.set_cons_succ]
              refine wpAnyH_ready (rs := [7]) (by kernel_rfl) (by simp) ?_
              refine AllReadyH.cons rfl (fun K hK => ?_) AllReadyH.nil
              refine step_appKn (by rfl) (.tmp 41) (.tmp 43) (by rfl) (w.alloc (.cells #[.string x.1, .string x.2.1, .int .i64 x.2.2.1, .int .i64 x.2.2.2] 110)).heap.size _ _ _ _ (by rfl) hoB _ _ _ _ [x] (by rfl) hxB (by omega) hS.size ?_; intro A7 c7 w7 ho7 hg7 hr7; replace hS := hS.grown hg7 hS.size (fun g hg => (Ow.row hoB.2 g hg).1); clear hg7 hr7
              refine hK.out _ _ ?_ (fun hHeld => ?_)
              · (try dsimp only); first | done | (exact hS)
              clear hK K
              try simp only [Act.put, List.getElem_toArray, List.getElem_cons_succ, List.getElem_cons_zero, List.setIfInBounds_toArray, List.set_cons_zero, List.set_cons_succ]
              refine wpAnyH_ready (rs := [11]) (by kernel_rfl) (by simp) ?_
              refine AllReadyH.cons rfl (fun K hK => ?_) AllReadyH.nil
              refine step_appKn (by rfl) (.tmp 44) (.tmp 47) (by rfl) (w.alloc (.cells #[.string x.1, .string x.2.1, .int .i64 x.2.2.1, .int .i64 x.2.2.2] 110)).heap.size _ _ _ _ (by rfl) ho7 _ _ _ _ _ (by rfl) ((hR _).below hS) (by omega) hS.size ?_; intro A9 c9 w9 ho9 hg9 hr9; replace hS := hS.grown hg9 hS.size (fun g hg => (Ow.row ho7.2 g hg).1); clear hg9 hr9
              refine hK.out _ _ ?_ (fun hHeld => ?_)
              · (try dsimp only); first | done | (exact hS)
              clear hK K
              try simp only [Act.put, List.getElem_toArray, List.getElem_cons_succ, List.getElem_cons_zero, List.setIfInBounds_toArray, List.set_cons_zero, List.set_cons_succ]
              first
                | (refine wpAnyH_take (i := 12) (v := ?_) rfl (by kernel_rfl) (by kernel_rfl) (by kernel_rfl) (fun _ _ _ h => h) (Or.inl ⟨by rfl, ?_⟩) hHeld ?_; rotate_left; (intro wq hSw; (try dsimp only at hSw); go_simp; done))
                | (refine wpAnyH_take (i := 12) (v := ?_) rfl (by kernel_rfl) (by kernel_rfl) (by kernel_rfl) (fun _ _ _ h => h) (Or.inl ⟨by rfl, ?_⟩) hHeld ?_; rotate_left; (intro wq hSw; (try dsimp only at hSw); go_simp; with_reducible rfl))
                | refine wpAnyH_take (i := 12) (v := undef) rfl (by kernel_rfl) (by kernel_rfl) (by kernel_rfl) (fun _ _ _ h => h) (Or.inr ⟨by rfl, rfl⟩) hHeld ?_
              try simp only [Act.put, List.getElem_toArray, List.getElem_cons_succ, List.getElem_cons_zero, List.setIfInBounds_toArray, List.set_cons_zero, List.set_cons_succ]
              refine wpAnyH_done (by kernel_rfl) ?_ _
              (have he : (oneK l x).length = 0 + 1 + (0 - 0) := (by have := HLEN.out; omega); have hl9 : l.take 0 ++ [x] ++ l.drop 0 = oneK l x := (by rw [HO.out, List.append_assoc]; rfl); rw [hl9, ← he] at ho9; rw [← he]; have HE := Lib.hid he; clear he hl9; go_wp2_with fail; go_ret; exact ⟨A9, c9, (by first | rfl | (rw [HLEN.out]; rfl)), ⟨ho9.1, Ow.rebase ho9.2 (Nat.le_of_lt lx)⟩, hbw.trans (hS.mono (Nat.le_of_lt lx))⟩)
          · obtain ⟨g, rfl⟩ : ∃ g, A = some ⟨g, 0, none⟩ := by
              rcases ho.2.2.2.2 with h0 | ⟨g, _, h, _⟩
              · omega
              · exact ⟨g, h⟩
            by_cases hck : c = k
            · subst hck
              go_wp2_with fail
              go_quiet (fail)
              go_upto_region 9 with fail
              have hS : Below (w.alloc (.cells #[.string x.1, .string x.2.1, .int .i64 x.2.2.1, .int .i64 x.2.2.2] 110)).heap.size (w.alloc (.cells #[.string x.1, .string x.2.1, .int .i64 x.2.2.1, .int .i64 x.2.2.2] 110)) ((((w.alloc (.cells #[.string x.1, .string x.2.1, .int .i64 x.2.2.1, .int .i64 x.2.2.2] 110)).drewN mq).drewN nq).drew) := ⟨rfl, rfl, rfl, Nat.le_refl _, fun _ _ => rfl⟩
              have hR := Kns.rest (c := c) hla hkn0 hnc; rw [if_pos rfl, Nat.sub_self] at hR
              have hP := Kns.pre hla hkn0
              refine wp_region_held_drew (S := (fun wx => Below (w.alloc (.cells #[.string x.1, .string x.2.1, .int .i64 x.2.2.1, .int .i64 x.2.2.2] 110)).heap.size (w.alloc (.cells #[.string x.1, .string x.2.1, .int .i64 x.2.2.1, .int .i64 x.2.2.2] 110)) wx)) (by kernel_rfl) ?_ (fun hHeld => ?_)
              · (try dsimp only); first | done | (exact hS)
              first
                | (refine wpAnyH_take (i := 1) (v := ?_) rfl (by kernel_rfl) (by kernel_rfl) (by kernel_rfl) (fun _ _ _ h => h) (Or.inl ⟨by rfl, ?_⟩) hHeld ?_; rotate_left; (intro wq hSw; (try dsimp only at hSw); go_simp; done))
                | (refine wpAnyH_take (i := 1) (v := ?_) rfl (by kernel_rfl) (by kernel_rfl) (by kernel_rfl) (fun _ _ _ h => h) (Or.inl ⟨by rfl, ?_⟩) hHeld ?_; rotate_left; (intro wq hSw; (try dsimp only at hSw); go_simp; with_reducible rfl))
                | refine wpAnyH_take (i := 1) (v := undef) rfl (by kernel_rfl) (by kernel_rfl) (by kernel_rfl) (fun _ _ _ h => h) (Or.inr ⟨by rfl, rfl⟩) hHeld ?_
              try simp only [Act.put, List.getElem_toArray, List.getElem_cons_succ, List.getElem_cons_zero, List.setIfInBounds_toArray, List.set_cons_zero, List.set_cons_succ]
              first
                | (refine wpAnyH_take (i := 2) (v := ?_) rfl (by kernel_rfl) (by kernel_rfl) (by kernel_rfl) (fun _ _ _ h => h) (Or.inl ⟨by rfl, ?_⟩) hHeld ?_; rotate_left; (intro wq hSw; (try dsimp only at hSw); go_simp; done))
                | (refine wpAnyH_take (i := 2) (v := ?_) rfl (by kernel_rfl) (by kernel_rfl) (by kernel_rfl) (fun _ _ _ h => h) (Or.inl ⟨by rfl, ?_⟩) hHeld ?_; rotate_left; (intro wq hSw; (try dsimp only at hSw); go_simp; with_reducible rfl))
                | refine wpAnyH_take (i := 2) (v := undef) rfl (by kernel_rfl) (by kernel_rfl) (by kernel_rfl) (fun _ _ _ h => h) (Or.inr ⟨by rfl, rfl⟩) hHeld ?_
              try simp only [Act.put, List.getElem_toArray, List.getElem_cons_succ, List.getElem_cons_zero, List.setIfInBounds_toArray, List.set_cons_zero, List.set_cons_succ]
              first
                | (refine wpAnyH_take (i := 5) (v := ?_) rfl (by kernel_rfl) (by kernel_rfl) (by kernel_rfl) (fun _ _ _ h => h) (Or.inl ⟨by rfl, ?_⟩) hHeld ?_; rotate_left; (intro wq hSw; (try dsimp only at hSw); obtain ⟨y0, y1, y2, y3⟩ := kn_cells ((hSw.block _ lx).trans hxa); go_simp; done))
                | (refine wpAnyH_take (i := 5) (v := ?_) rfl (by kernel_rfl) (by kernel_rfl) (by kernel_rfl) (fun _ _ _ h => h) (Or.inl ⟨by rfl, ?_⟩) hHeld ?_; rotate_left; (intro wq hSw; (try dsimp only at hSw); obtain ⟨y0, y1, y2, y3⟩ := kn_cells ((hSw.block _ lx).trans hxa); go_simp; with_reducible rfl))
                | refine wpAnyH_take (i := 5) (v := undef) rfl (by kernel_rfl) (by kernel_rfl) (by kernel_rfl) (fun _ _ _ h => h) (Or.inr ⟨by rfl, rfl⟩) hHeld ?_
              try simp only [Act.put, List.getElem_toArray, List.getElem_cons_succ, List.getElem_cons_zero, List.setIfInBounds_toArray, List.set_cons_zero, List.set_cons_succ]
              first
                | (refine wpAnyH_take (i := 8) (v := ?_) rfl (by kernel_rfl) (by kernel_rfl) (by kernel_rfl) (fun _ _ _ h => h) (Or.inl ⟨by rfl, ?_⟩) hHeld ?_; rotate_left; (intro wq hSw; (try dsimp only at hSw); go_simp; done))
                | (refine wpAnyH_take (i := 8) (v := ?_) rfl (by kernel_rfl) (by kernel_rfl) (by kernel_rfl) (fun _ _ _ h => h) (Or.inl ⟨by rfl, ?_⟩) hHeld ?_; rotate_left; (intro wq hSw; (try dsimp only at hSw); go_simp; with_reducible rfl))
                | refine wpAnyH_take (i := 8) (v := undef) rfl (by kernel_rfl) (by kernel_rfl) (by kernel_rfl) (fun _ _ _ h => h) (Or.inr ⟨by rfl, rfl⟩) hHeld ?_
              try simp only [Act.put, List.getElem_toArray, List.getElem_cons_succ, List.getElem_cons_zero, List.setIfInBounds_toArray, List.set_cons_zero, List.set_cons_succ]
              first
                | (refine wpAnyH_take (i := 9) (v := ?_) rfl (by kernel_rfl) (by kernel_rfl) (by kernel_rfl) (fun _ _ _ h => h) (Or.inl ⟨by rfl, ?_⟩) hHeld ?_; rotate_left; (intro wq hSw; (try dsimp only at hSw); go_simp; done))
                | (refine wpAnyH_take (i := 9) (v := ?_) rfl (by kernel_rfl) (by kernel_rfl) (by kernel_rfl) (fun _ _ _ h => h) (Or.inl ⟨by rfl, ?_⟩) hHeld ?_; rotate_left; (intro wq hSw; (try dsimp only at hSw); go_simp; with_reducible rfl))
                | refine wpAnyH_take (i := 9) (v := undef) rfl (by kernel_rfl) (by kernel_rfl) (by kernel_rfl) (fun _ _ _ h => h) (Or.inr ⟨by rfl, rfl⟩) hHeld ?_
              try simp only [Act.put, List.getElem_toArray, List.getElem_cons_succ, List.getElem_cons_zero, List.setIfInBounds_toArray, List.set_cons_zero, List.set_cons_succ]
              first
                | (refine wpAnyH_take (i := 3) (v := ?_) rfl (by kernel_rfl) (by kernel_rfl) (by kernel_rfl) (fun _ _ _ h => h) (Or.inl ⟨by rfl, ?_⟩) hHeld ?_; rotate_left; (intro wq hSw; (try dsimp only at hSw); go_simp; done))
                | (refine wpAnyH_take (i := 3) (v := ?_) rfl (by kernel_rfl) (by kernel_rfl) (by kernel_rfl) (fun _ _ _ h => h) (Or.inl ⟨by rfl, ?_⟩) hHeld ?_; rotate_left; (intro wq hSw; (try dsimp only at hSw); go_simp; with_reducible rfl))
                | refine wpAnyH_take (i := 3) (v := undef) rfl (by kernel_rfl) (by kernel_rfl) (by kernel_rfl) (fun _ _ _ h => h) (Or.inr ⟨by rfl, rfl⟩) hHeld ?_
              try simp only [Act.put, List.getElem_toArray, List.getElem_cons_succ, List.getElem_cons_zero, List.setIfInBounds_toArray, List.set_cons_zero, List.set_cons_succ]
              first
                | (refine wpAnyH_take (i := 10) (v := ?_) rfl (by kernel_rfl) (by kernel_rfl) (by kernel_rfl) (fun _ _ _ h => h) (Or.inl ⟨by rfl, ?_⟩) hHeld ?_; rotate_left; (intro wq hSw; (try dsimp only at hSw); go_simp; done))
                | (refine wpAnyH_take (i := 10) (v := ?_) rfl (by kernel_rfl) (by kernel_rfl) (by kernel_rfl) (fun _ _ _ h => h) (Or.inl ⟨by rfl, ?_⟩) hHeld ?_; rotate_left; (intro wq hSw; (try dsimp only at hSw); go_simp; with_reducible rfl))
                | refine wpAnyH_take (i := 10) (v := undef) rfl (by kernel_rfl) (by kernel_rfl) (by kernel_rfl) (fun _ _ _ h => h) (Or.inr ⟨by rfl, rfl⟩) hHeld ?_
              try simp only [Act.put, List.getElem_toArray, List.getElem_cons_succ, List.getElem_cons_zero, List.setIfInBounds_toArray, List.set_cons_zero, List.set_cons_succ]
              refine wpAnyH_ready (rs := [0, 6]) (by kernel_rfl) (by simp) ?_
              refine AllReadyH.cons rfl (fun K hK => ?_) ?_
              ·
                refine step_buildKn0 (by rfl) (by rfl) ?_; intro A0 wx hbx; replace hS := hS.trans (hbx.mono hS.size); (try replace hxB := (hxB.below hbx).more hbx.size); clear hbx
                refine hK.out _ _ ?_ (fun hHeld => ?_)
                · (try dsimp only); first | done | (exact hS)
                clear hK K
                try simp only [Act.put, List.getElem_toArray, List.getElem_cons_succ, List.getElem_cons_zero, List.setIfInBounds_toArray, List.set_cons_zero, List.set_cons_succ]
                refine wpAnyH_ready (rs := [4, 6]) (by kernel_rfl) (by simp) ?_
                refine AllReadyH.cons rfl (fun K hK => ?_) ?_
                ·
                  refine step_appKn0 (by rfl) (.tmp 37) (.tmp 40) (by rfl) (w.alloc (.cells #[.string x.1, .string x.2.1, .int .i64 x.2.2.1, .int .i64 x.2.2.2] 110)).heap.size A0 (by rfl) _ _ c _ _ (by rfl) (hP.below hS) (by omega) hS.size ?_; intro A4 c4 w4 hoB hbx; replace hS := hS.trans (hbx.mono hS.size); (try replace hxB := (hxB.below hbx).more hbx.size); clear hbx
                  refine hK.out _ _ ?_ (fun hHeld => ?_)
                  · (try dsimp only); first | done | (exact hS)
                  clear hK K
                  try simp only [Act.put, List.getElem_toArray, List.getElem_cons_succ, List.getElem_cons_zero, List.setIfInBounds_toArray, List.set_cons_zero, List.set_cons_succ]
                  refine wpAnyH_ready (rs := [6]) (by kernel_rfl) (by simp) ?_
                  refine AllReadyH.cons rfl (fun K hK => ?_) AllReadyH.nil
                  refine step_buildKn (by rfl) (.tmp 42) (by rfl) x (by rfl) ?_; intro B43 wx hxB hbx; replace hS := hS.trans (hbx.mono hS.size); (try replace hoB := OwR.below hoB hbx); clear hbx
                  refine hK.out _ _ ?_ (fun hHeld => ?_)
                  · (try dsimp only); first | done | (exact hS)
                  clear hK K
                  try simp only [Act.put, List.getElem_toArray, List.getElem_cons_succ, List.getElem_cons_zero, List.setIfInBounds_toArray, List.set_cons_zero, List.set_cons_succ]
                  refine wpAnyH_ready (rs := [7]) (by kernel_rfl) (by simp) ?_
                  refine AllReadyH.cons rfl (fun K hK => ?_) AllReadyH.nil
                  refine step_appKn (by rfl) (.tmp 41) (.tmp 43) (by rfl) (w.alloc (.cells #[.string x.1, .string x.2.1, .int .i64 x.2.2.1, .int .i64 x.2.2.2] 110)).heap.size _ _ _ _ (by rfl) hoB _ _ _ _ [x] (by rfl) hxB (by omega) hS.size ?_; intro A7 c7 w7 ho7 hg7 hr7; replace hS := hS.grown hg7 hS.size (fun g hg => (Ow.row hoB.2 g hg).1); clear hg7 hr7
                  refine hK.out _ _ ?_ (fun hHeld => ?_)
                  · (try dsimp only); first | done | (exact hS)
                  clear hK K
                  try simp only [Act.put, List.getElem_toArray, List.getElem_cons_succ, List.getElem_cons_zero, List.setIfInBounds_toArray, List.set_cons_zero, List.set_cons_succ]
                  refine wpAnyH_ready (rs := [11]) (by kernel_rfl) (by simp) ?_
                  refine AllReadyH.cons rfl (fun K hK => ?_) AllReadyH.nil
                  refine step_appKn (by rfl) (.tmp 44) (.tmp 47) (by rfl) (w.alloc (.cells #[.string x.1, .string x.2.1, .int .i64 x.2.2.1, .int .i64 x.2.2.2] 110)).heap.size _ _ _ _ (by rfl) ho7 _ _ _ _ _ (by rfl) (hR.below hS) (by omega) hS.size ?_; intro A9 c9 w9 ho9 hg9 hr9; replace hS := hS.grown hg9 hS.size (fun g hg => (Ow.row ho7.2 g hg).1); clear hg9 hr9
                  refine hK.out _ _ ?_ (fun hHeld => ?_)
                  · (try dsimp only); first | done | (exact hS)
                  clear hK K
                  try simp only [Act.put, List.getElem_toArray, List.getElem_cons_succ, List.getElem_cons_zero, List.setIfInBounds_toArray, List.set_cons_zero, List.set_cons_succ]
                  first
                    | (refine wpAnyH_take (i := 12) (v := ?_) rfl (by kernel_rfl) (by kernel_rfl) (by kernel_rfl) (fun _ _ _ h => h) (Or.inl ⟨by rfl, ?_⟩) hHeld ?_; rotate_left; (intro wq hSw; (try dsimp only at hSw); go_simp; done))
                    | (refine wpAnyH_take (i := 12) (v := ?_) rfl (by kernel_rfl) (by kernel_rfl) (by kernel_rfl) (fun _ _ _ h => h) (Or.inl ⟨by rfl, ?_⟩) hHeld ?_; rotate_left; (intro wq hSw; (try dsimp only at hSw); go_simp; with_reducible rfl))
                    | refine wpAnyH_take (i := 12) (v := undef) rfl (by kernel_rfl) (by kernel_rfl) (by kernel_rfl) (fun _ _ _ h => h) (Or.inr ⟨by rfl, rfl⟩) hHeld ?_
                  try simp only [Act.put, List.getElem_toArray, List.getElem_cons_succ, List.getElem_cons_zero, List.setIfInBounds_toArray, List.set_cons_zero, List.set_cons_succ]
                  refine wpAnyH_done (by kernel_rfl) ?_ _
                  (have he : (oneK l x).length = c + 1 + 0 := (by have := HLEN.out; omega); have hl9 : l.take c ++ [x] ++ l.drop c = oneK l x := (by rw [HO.out, List.append_assoc]; rfl); rw [hl9, ← he] at ho9; rw [← he]; have HE := Lib.hid he; clear he hl9; go_wp2_with fail; go_ret; exact ⟨A9, c9, (by first | rfl | (rw [HLEN.out]; rfl)), ⟨ho9.1, Ow.rebase ho9.2 (Nat.le_of_lt lx)⟩, hbw.trans (hS.mono (Nat.le_of_lt lx))⟩)
                refine AllReadyH.cons rfl (fun K hK => ?_) AllReadyH.nil
                refine step_buildKn (by rfl) (.tmp 42) (by rfl) x (by rfl) ?_; intro B43 wx hxB hbx; replace hS := hS.trans (hbx.mono hS.size); (try replace hoB := OwR.below hoB hbx); clear hbx
                refine hK.out _ _ ?_ (fun hHeld => ?_)
                · (try dsimp only); first | done | (exact hS)
                clear hK K
                try simp only [Act.put, List.getElem_toArray, List.getElem_cons_succ, List.getElem_cons_zero, List.setIfInBounds_toArray, List.set_cons_zero, List.set_cons_succ]
                refine wpAnyH_ready (rs := [4]) (by kernel_rfl) (by simp) ?_
                refine AllReadyH.cons rfl (fun K hK => ?_) AllReadyH.nil
                refine step_appKn0 (by rfl) (.tmp 37) (.tmp 40) (by rfl) (w.alloc (.cells #[.string x.1, .string x.2.1, .int .i64 x.2.2.1, .int .i64 x.2.2.2] 110)).heap.size A0 (by rfl) _ _ c _ _ (by rfl) (hP.below hS) (by omega) hS.size ?_; intro A4 c4 w4 hoB hbx; replace hS := hS.trans (hbx.mono hS.size); (try replace hxB := (hxB.below hbx).more hbx.size); clear hbx
                refine hK.out _ _ ?_ (fun hHeld => ?_)
                · (try dsimp only); first | done | (exact hS)
                clear hK K
                try simp only [Act.put, List.getElem_toArray, List.getElem_cons_succ, List.getElem_cons_zero, List.setIfInBounds_toArray, List.set_cons_zero, List.set_cons_succ]
                refine wpAnyH_ready (rs := [7]) (by kernel_rfl) (by simp) ?_
                refine AllReadyH.cons rfl (fun K hK => ?_) AllReadyH.nil
                refine step_appKn (by rfl) (.tmp 41) (.tmp 43) (by rfl) (w.alloc (.cells #[.string x.1, .string x.2.1, .int .i64 x.2.2.1, .int .i64 x.2.2.2] 110)).heap.size _ _ _ _ (by rfl) hoB _ _ _ _ [x] (by rfl) hxB (by omega) hS.size ?_; intro A7 c7 w7 ho7 hg7 hr7; replace hS := hS.grown hg7 hS.size (fun g hg => (Ow.row hoB.2 g hg).1); clear hg7 hr7
                refine hK.out _ _ ?_ (fun hHeld => ?_)
                · (try dsimp only); first | done | (exact hS)
                clear hK K
                try simp only [Act.put, List.getElem_toArray, List.getElem_cons_succ, List.getElem_cons_zero, List.setIfInBounds_toArray, List.set_cons_zero, List.set_cons_succ]
                refine wpAnyH_ready (rs := [11]) (by kernel_rfl) (by simp) ?_
                refine AllReadyH.cons rfl (fun K hK => ?_) AllReadyH.nil
                refine step_appKn (by rfl) (.tmp 44) (.tmp 47) (by rfl) (w.alloc (.cells #[.string x.1, .string x.2.1, .int .i64 x.2.2.1, .int .i64 x.2.2.2] 110)).heap.size _ _ _ _ (by rfl) ho7 _ _ _ _ _ (by rfl) (hR.below hS) (by omega) hS.size ?_; intro A9 c9 w9 ho9 hg9 hr9; replace hS := hS.grown hg9 hS.size (fun g hg => (Ow.row ho7.2 g hg).1); clear hg9 hr9
                refine hK.out _ _ ?_ (fun hHeld => ?_)
                · (try dsimp only); first | done | (exact hS)
                clear hK K
                try simp only [Act.put, List.getElem_toArray, List.getElem_cons_succ, List.getElem_cons_zero, List.setIfInBounds_toArray, List.set_cons_zero, List.set_cons_succ]
                first
                  | (refine wpAnyH_take (i := 12) (v := ?_) rfl (by kernel_rfl) (by kernel_rfl) (by kernel_rfl) (fun _ _ _ h => h) (Or.inl ⟨by rfl, ?_⟩) hHeld ?_; rotate_left; (intro wq hSw; (try dsimp only at hSw); go_simp; done))
                  | (refine wpAnyH_take (i := 12) (v := ?_) rfl (by kernel_rfl) (by kernel_rfl) (by kernel_rfl) (fun _ _ _ h => h) (Or.inl ⟨by rfl, ?_⟩) hHeld ?_; rotate_left; (intro wq hSw; (try dsimp only at hSw); go_simp; with_reducible rfl))
                  | refine wpAnyH_take (i := 12) (v := undef) rfl (by kernel_rfl) (by kernel_rfl) (by kernel_rfl) (fun _ _ _ h => h) (Or.inr ⟨by rfl, rfl⟩) hHeld ?_
                try simp only [Act.put, List.getElem_toArray, List.getElem_cons_succ, List.getElem_cons_zero, List.setIfInBounds_toArray, List.set_cons_zero, List.set_cons_succ]
                refine wpAnyH_done (by kernel_rfl) ?_ _
                (have he : (oneK l x).length = c + 1 + 0 := (by have := HLEN.out; omega); have hl9 : l.take c ++ [x] ++ l.drop c = oneK l x := (by rw [HO.out, List.append_assoc]; rfl); rw [hl9, ← he] at ho9; rw [← he]; have HE := Lib.hid he; clear he hl9; go_wp2_with fail; go_ret; exact ⟨A9, c9, (by first | rfl | (rw [HLEN.out]; rfl)), ⟨ho9.1, Ow.rebase ho9.2 (Nat.le_of_lt lx)⟩, hbw.trans (hS.mono (Nat.le_of_lt lx))⟩)
              refine AllReadyH.cons rfl (fun K hK => ?_) AllReadyH.nil
              refine step_buildKn (by rfl) (.tmp 42) (by rfl) x (by rfl) ?_; intro B43 wx hxB hbx; replace hS := hS.trans (hbx.mono hS.size); (try replace hoB := OwR.below hoB hbx); clear hbx
              refine hK.out _ _ ?_ (fun hHeld => ?_)
              · (try dsimp only); first | done | (exact hS)
              clear hK K
              try simp only [Act.put, List.getElem_toArray, List.getElem_cons_succ, List.getElem_cons_zero, List.setIfInBounds_toArray, List.set_cons_zero, List.set_cons_succ]
              refine wpAnyH_ready (rs := [0]) (by kernel_rfl) (by simp) ?_
              refine AllReadyH.cons rfl (fun K hK => ?_) AllReadyH.nil
              refine step_buildKn0 (by rfl) (by rfl) ?_; intro A0 wx hbx; replace hS := hS.trans (hbx.mono hS.size); (try replace hxB := (hxB.below hbx).more hbx.size); clear hbx
              refine hK.out _ _ ?_ (fun hHeld => ?_)
              · (try dsimp only); first | done | (exact hS)
              clear hK K
              try simp only [Act.put, List.getElem_toArray, List.getElem_cons_succ, List.getElem_cons_zero, List.setIfInBounds_toArray, List.set_cons_zero, List.set_cons_succ]
              refine wpAnyH_ready (rs := [4]) (by kernel_rfl) (by simp) ?_
              refine AllReadyH.cons rfl (fun K hK => ?_) AllReadyH.nil
              refine step_appKn0 (by rfl) (.tmp 37) (.tmp 40) (by rfl) (w.alloc (.cells #[.string x.1, .string x.2.1, .int .i64 x.2.2.1, .int .i64 x.2.2.2] 110)).heap.size A0 (by rfl) _ _ c _ _ (by rfl) (hP.below hS) (by omega) hS.size ?_; intro A4 c4 w4 hoB hbx; replace hS := hS.trans (hbx.mono hS.size); (try replace hxB := (hxB.below hbx).more hbx.size); clear hbx
              refine hK.out _ _ ?_ (fun hHeld => ?_)
              · (try dsimp only); first | done | (exact hS)
              clear hK K
              try simp only [Act.put, List.getElem_toArray, List.getElem_cons_succ, List.getElem_cons_zero, List.setIfInBounds_toArray, List.set_cons_zero, List.set_cons_succ]
              refine wpAnyH_ready (rs := [7]) (by kernel_rfl) (by simp) ?_
              refine AllReadyH.cons rfl (fun K hK => ?_) AllReadyH.nil
              refine step_appKn (by rfl) (.tmp 41) (.tmp 43) (by rfl) (w.alloc (.cells #[.string x.1, .string x.2.1, .int .i64 x.2.2.1, .int .i64 x.2.2.2] 110)).heap.size _ _ _ _ (by rfl) hoB _ _ _ _ [x] (by rfl) hxB (by omega) hS.size ?_; intro A7 c7 w7 ho7 hg7 hr7; replace hS := hS.grown hg7 hS.size (fun g hg => (Ow.row hoB.2 g hg).1); clear hg7 hr7
              refine hK.out _ _ ?_ (fun hHeld => ?_)
              · (try dsimp only); first | done | (exact hS)
              clear hK K
              try simp only [Act.put, List.getElem_toArray, List.getElem_cons_succ, List.getElem_cons_zero, List.setIfInBounds_toArray, List.set_cons_zero, List.set_cons_succ]
              refine wpAnyH_ready (rs := [11]) (by kernel_rfl) (by simp) ?_
              refine AllReadyH.cons rfl (fun K hK => ?_) AllReadyH.nil
              refine step_appKn (by rfl) (.tmp 44) (.tmp 47) (by rfl) (w.alloc (.cells #[.string x.1, .string x.2.1, .int .i64 x.2.2.1, .int .i64 x.2.2.2] 110)).heap.size _ _ _ _ (by rfl) ho7 _ _ _ _ _ (by rfl) (hR.below hS) (by omega) hS.size ?_; intro A9 c9 w9 ho9 hg9 hr9; replace hS := hS.grown hg9 hS.size (fun g hg => (Ow.row ho7.2 g hg).1); clear hg9 hr9
              refine hK.out _ _ ?_ (fun hHeld => ?_)
              · (try dsimp only); first | done | (exact hS)
              clear hK K
              try simp only [Act.put, List.getElem_toArray, List.getElem_cons_succ, List.getElem_cons_zero, List.setIfInBounds_toArray, List.set_cons_zero, List.set_cons_succ]
              first
                | (refine wpAnyH_take (i := 12) (v := ?_) rfl (by kernel_rfl) (by kernel_rfl) (by kernel_rfl) (fun _ _ _ h => h) (Or.inl ⟨by rfl, ?_⟩) hHeld ?_; rotate_left; (intro wq hSw; (try dsimp only at hSw); go_simp; done))
                | (refine wpAnyH_take (i := 12) (v := ?_) rfl (by kernel_rfl) (by kernel_rfl) (by kernel_rfl) (fun _ _ _ h => h) (Or.inl ⟨by rfl, ?_⟩) hHeld ?_; rotate_left; (intro wq hSw; (try dsimp only at hSw); go_simp; with_reducible rfl))
                | refine wpAnyH_take (i := 12) (v := undef) rfl (by kernel_rfl) (by kernel_rfl) (by kernel_rfl) (fun _ _ _ h => h) (Or.inr ⟨by rfl, rfl⟩) hHeld ?_
              try simp only [Act.put, List.getElem_toArray, List.getElem_cons_succ, List.getElem_cons_zero, List.setIfInBounds_toArray, List.set_cons_zero, List.set_cons_succ]
              refine wpAnyH_done (by kernel_rfl) ?_ _
              (have he : (oneK l x).length = c + 1 + 0 := (by have := HLEN.out; omega); have hl9 : l.take c ++ [x] ++ l.drop c = oneK l x := (by rw [HO.out, List.append_assoc]; rfl); rw [hl9, ← he] at ho9; rw [← he]; have HE := Lib.hid he; clear he hl9; go_wp2_with fail; go_ret; exact ⟨A9, c9, (by first | rfl | (rw [HLEN.out]; rfl)), ⟨ho9.1, Ow.rebase ho9.2 (Nat.le_of_lt lx)⟩, hbw.trans (hS.mono (Nat.le_of_lt lx))⟩)
            · go_wp2_with fail
              go_quiet (fail)
              go_upto_region 9 with fail
              have hS : Below (w.alloc (.cells #[.string x.1, .string x.2.1, .int .i64 x.2.2.1, .int .i64 x.2.2.2] 110)).heap.size (w.alloc (.cells #[.string x.1, .string x.2.1, .int .i64 x.2.2.1, .int .i64 x.2.2.2] 110)) ((((w.alloc (.cells #[.string x.1, .string x.2.1, .int .i64 x.2.2.1, .int .i64 x.2.2.2] 110)).drewN mq).drewN nq).drew) := ⟨rfl, rfl, rfl, Nat.le_refl _, fun _ _ => rfl⟩
              have hR := Kns.rest (c := c) hla hkn0 hnc; rw [if_neg hck, Nat.sub_self] at hR
              have hP := Kns.pre hla hkn0
              refine wp_region_held_drew (S := (fun wx => Below (w.alloc (.cells #[.string x.1, .string x.2.1, .int .i64 x.2.2.1, .int .i64 x.2.2.2] 110)).heap.size (w.alloc (.cells #[.string x.1, .string x.2.1, .int .i64 x.2.2.1, .int .i64 x.2.2.2] 110)) wx)) (by kernel_rfl) ?_ (fun hHeld => ?_)
              · (try dsimp only); first | done | (exact hS)
              first
                | (refine wpAnyH_take (i := 1) (v := ?_) rfl (by kernel_rfl) (by kernel_rfl) (by kernel_rfl) (fun _ _ _ h => h) (Or.inl ⟨by rfl, ?_⟩) hHeld ?_; rotate_left; (intro wq hSw; (try dsimp only at hSw); go_simp; done))
                | (refine wpAnyH_take (i := 1) (v := ?_) rfl (by kernel_rfl) (by kernel_rfl) (by kernel_rfl) (fun _ _ _ h => h) (Or.inl ⟨by rfl, ?_⟩) hHeld ?_; rotate_left; (intro wq hSw; (try dsimp only at hSw); go_simp; with_reducible rfl))
                | refine wpAnyH_take (i := 1) (v := undef) rfl (by kernel_rfl) (by kernel_rfl) (by kernel_rfl) (fun _ _ _ h => h) (Or.inr ⟨by rfl, rfl⟩) hHeld ?_
              try simp only [Act.put, List.getElem_toArray, List.getElem_cons_succ, List.getElem_cons_zero, List.setIfInBounds_toArray, List.set_cons_zero, List.set_cons_succ]
              first
                | (refine wpAnyH_take (i := 2) (v := ?_) rfl (by kernel_rfl) (by kernel_rfl) (by kernel_rfl) (fun _ _ _ h => h) (Or.inl ⟨by rfl, ?_⟩) hHeld ?_; rotate_left; (intro wq hSw; (try dsimp only at hSw); go_simp; done))
                | (refine wpAnyH_take (i := 2) (v := ?_) rfl (by kernel_rfl) (by kernel_rfl) (by kernel_rfl) (fun _ _ _ h => h) (Or.inl ⟨by rfl, ?_⟩) hHeld ?_; rotate_left; (intro wq hSw; (try dsimp only at hSw); go_simp; with_reducible rfl))
                | refine wpAnyH_take (i := 2) (v := undef) rfl (by kernel_rfl) (by kernel_rfl) (by kernel_rfl) (fun _ _ _ h => h) (Or.inr ⟨by rfl, rfl⟩) hHeld ?_
              try simp only [Act.put, List.getElem_toArray, List.getElem_cons_succ, List.getElem_cons_zero, List.setIfInBounds_toArray, List.set_cons_zero, List.set_cons_succ]
              first
                | (refine wpAnyH_take (i := 5) (v := ?_) rfl (by kernel_rfl) (by kernel_rfl) (by kernel_rfl) (fun _ _ _ h => h) (Or.inl ⟨by rfl, ?_⟩) hHeld ?_; rotate_left; (intro wq hSw; (try dsimp only at hSw); obtain ⟨y0, y1, y2, y3⟩ := kn_cells ((hSw.block _ lx).trans hxa); go_simp; done))
                | (refine wpAnyH_take (i := 5) (v := ?_) rfl (by kernel_rfl) (by kernel_rfl) (by kernel_rfl) (fun _ _ _ h => h) (Or.inl ⟨by rfl, ?_⟩) hHeld ?_; rotate_left; (intro wq hSw; (try dsimp only at hSw); obtain ⟨y0, y1, y2, y3⟩ := kn_cells ((hSw.block _ lx).trans hxa); go_simp; with_reducible rfl))
                | refine wpAnyH_take (i := 5) (v := undef) rfl (by kernel_rfl) (by kernel_rfl) (by kernel_rfl) (fun _ _ _ h => h) (Or.inr ⟨by rfl, rfl⟩) hHeld ?_
              try simp only [Act.put, List.getElem_toArray, List.getElem_cons_succ, List.getElem_cons_zero, List.setIfInBounds_toArray, List.set_cons_zero, List.set_cons_succ]
              first
                | (refine wpAnyH_take (i := 8) (v := ?_) rfl (by kernel_rfl) (by kernel_rfl) (by kernel_rfl) (fun _ _ _ h => h) (Or.inl ⟨by rfl, ?_⟩) hHeld ?_; rotate_left; (intro wq hSw; (try dsimp only at hSw); go_simp; done))
                | (refine wpAnyH_take (i := 8) (v := ?_) rfl (by kernel_rfl) (by kernel_rfl) (by kernel_rfl) (fun _ _ _ h => h) (Or.inl ⟨by rfl, ?_⟩) hHeld ?_; rotate_left; (intro wq hSw; (try dsimp only at hSw); go_simp; with_reducible rfl))
                | refine wpAnyH_take (i := 8) (v := undef) rfl (by kernel_rfl) (by kernel_rfl) (by kernel_rfl) (fun _ _ _ h => h) (Or.inr ⟨by rfl, rfl⟩) hHeld ?_
              try simp only [Act.put, List.getElem_toArray, List.getElem_cons_succ, List.getElem_cons_zero, List.setIfInBounds_toArray, List.set_cons_zero, List.set_cons_succ]
              first
                | (refine wpAnyH_take (i := 9) (v := ?_) rfl (by kernel_rfl) (by kernel_rfl) (by kernel_rfl) (fun _ _ _ h => h) (Or.inl ⟨by rfl, ?_⟩) hHeld ?_; rotate_left; (intro wq hSw; (try dsimp only at hSw); go_simp; done))
                | (refine wpAnyH_take (i := 9) (v := ?_) rfl (by kernel_rfl) (by kernel_rfl) (by kernel_rfl) (fun _ _ _ h => h) (Or.inl ⟨by rfl, ?_⟩) hHeld ?_; rotate_left; (intro wq hSw; (try dsimp only at hSw); go_simp; with_reducible rfl))
                | refine wpAnyH_take (i := 9) (v := undef) rfl (by kernel_rfl) (by kernel_rfl) (by kernel_rfl) (fun _ _ _ h => h) (Or.inr ⟨by rfl, rfl⟩) hHeld ?_
              try simp only [Act.put, List.getElem_toArray, List.getElem_cons_succ, List.getElem_cons_zero, List.setIfInBounds_toArray, List.set_cons_zero, List.set_cons_succ]
              first
                | (refine wpAnyH_take (i := 3) (v := ?_) rfl (by kernel_rfl) (by kernel_rfl) (by kernel_rfl) (fun _ _ _ h => h) (Or.inl ⟨by rfl, ?_⟩) hHeld ?_; rotate_left; (intro wq hSw; (try dsimp only at hSw); go_simp; done))
                | (refine wpAnyH_take (i := 3) (v := ?_) rfl (by kernel_rfl) (by kernel_rfl) (by kernel_rfl) (fun _ _ _ h => h) (Or.inl ⟨by rfl, ?_⟩) hHeld ?_; rotate_left; (intro wq hSw; (try dsimp only at hSw); go_simp; with_reducible rfl))
                | refine wpAnyH_take (i := 3) (v := undef) rfl (by kernel_rfl) (by kernel_rfl) (by kernel_rfl) (fun _ _ _ h => h) (Or.inr ⟨by rfl, rfl⟩) hHeld ?_
              try simp only [Act.put, List.getElem_toArray, List.getElem_cons_succ, List.getElem_cons_zero, List.setIfInBounds_toArray, List.set_cons_zero, List.set_cons_succ]
              first
                | (refine wpAnyH_take (i := 10) (v := ?_) rfl (by kernel_rfl) (by kernel_rfl) (by kernel_rfl) (fun _ _ _ h => h) (Or.inl ⟨by rfl, ?_⟩) hHeld ?_; rotate_left; (intro wq hSw; (try dsimp only at hSw); go_simp; done))
                | (refine wpAnyH_take (i := 10) (v := ?_) rfl (by kernel_rfl) (by kernel_rfl) (by kernel_rfl) (fun _ _ _ h => h) (Or.inl ⟨by rfl, ?_⟩) hHeld ?_; rotate_left; (intro wq hSw; (try dsimp only at hSw); go_simp; with_reducible rfl))
                | refine wpAnyH_take (i := 10) (v := undef) rfl (by kernel_rfl) (by kernel_rfl) (by kernel_rfl) (fun _ _ _ h => h) (Or.inr ⟨by rfl, rfl⟩) hHeld ?_
              try simp only [Act.put, List.getElem_toArray, List.getElem_cons_succ, List.getElem_cons_zero, List.setIfInBounds_toArray, List.set_cons_zero, List.set_cons_succ]
              refine wpAnyH_ready (rs := [0, 6]) (by kernel_rfl) (by simp) ?_
              refine AllReadyH.cons rfl (fun K hK => ?_) ?_
              ·
                refine step_buildKn0 (by rfl) (by rfl) ?_; intro A0 wx hbx; replace hS := hS.trans (hbx.mono hS.size); (try replace hxB := (hxB.below hbx).more hbx.size); clear hbx
                refine hK.out _ _ ?_ (fun hHeld => ?_)
                · (try dsimp only); first | done | (exact hS)
                clear hK K
                try simp only [Act.put, List.getElem_toArray, List.getElem_cons_succ, List.getElem_cons_zero, List.setIfInBounds_toArray, List.set_cons_zero, List.set_cons_succ]
                refine wpAnyH_ready (rs := [4, 6]) (by kernel_rfl) (by simp) ?_
                refine AllReadyH.cons rfl (fun K hK => ?_) ?_
                ·
                  refine step_appKn0 (by rfl) (.tmp 37) (.tmp 40) (by rfl) (w.alloc (.cells #[.string x.1, .string x.2.1, .int .i64 x.2.2.1, .int .i64 x.2.2.2] 110)).heap.size A0 (by rfl) _ _ k _ _ (by rfl) (hP.below hS) (by omega) hS.size ?_; intro A4 c4 w4 hoB hbx; replace hS := hS.trans (hbx.mono hS.size); (try replace hxB := (hxB.below hbx).more hbx.size); clear hbx
                  refine hK.out _ _ ?_ (fun hHeld => ?_)
                  · (try dsimp only); first | done | (exact hS)
                  clear hK K
                  try simp only [Act.put, List.getElem_toArray, List.getElem_cons_succ, List.getElem_cons_zero, List.setIfInBounds_toArray, List.set_cons_zero, List.set_cons_succ]
                  refine wpAnyH_ready (rs := [6]) (by kernel_rfl) (by simp) ?_
                  refine AllReadyH.cons rfl (fun K hK => ?_) AllReadyH.nil
                  refine step_buildKn (by rfl) (.tmp 42) (by rfl) x (by rfl) ?_; intro B43 wx hxB hbx; replace hS := hS.trans (hbx.mono hS.size); (try replace hoB := OwR.below hoB hbx); clear hbx
                  refine hK.out _ _ ?_ (fun hHeld => ?_)
                  · (try dsimp only); first | done | (exact hS)
                  clear hK K
                  try simp only [Act.put, List.getElem_toArray, List.getElem_cons_succ, List.getElem_cons_zero, List.setIfInBounds_toArray, List.set_cons_zero, List.set_cons_succ]
                  refine wpAnyH_ready (rs := [7]) (by kernel_rfl) (by simp) ?_
                  refine AllReadyH.cons rfl (fun K hK => ?_) AllReadyH.nil
                  refine step_appKn (by rfl) (.tmp 41) (.tmp 43) (by rfl) (w.alloc (.cells #[.string x.1, .string x.2.1, .int .i64 x.2.2.1, .int .i64 x.2.2.2] 110)).heap.size _ _ _ _ (by rfl) hoB _ _ _ _ [x] (by rfl) hxB (by omega) hS.size ?_; intro A7 c7 w7 ho7 hg7 hr7; replace hS := hS.grown hg7 hS.size (fun g hg => (Ow.row hoB.2 g hg).1); clear hg7 hr7
                  refine hK.out _ _ ?_ (fun hHeld => ?_)
                  · (try dsimp only); first | done | (exact hS)
                  clear hK K
                  try simp only [Act.put, List.getElem_toArray, List.getElem_cons_succ, List.getElem_cons_zero, List.setIfInBounds_toArray, List.set_cons_zero, List.set_cons_succ]
                  refine wpAnyH_ready (rs := [11]) (by kernel_rfl) (by simp) ?_
                  refine AllReadyH.cons rfl (fun K hK => ?_) AllReadyH.nil
                  refine step_appKn (by rfl) (.tmp 44) (.tmp 47) (by rfl) (w.alloc (.cells #[.string x.1, .string x.2.1, .int .i64 x.2.2.1, .int .i64 x.2.2.2] 110)).heap.size _ _ _ _ (by rfl) ho7 _ _ _ _ _ (by rfl) (hR.below hS) (by omega) hS.size ?_; intro A9 c9 w9 ho9 hg9 hr9; replace hS := hS.grown hg9 hS.size (fun g hg => (Ow.row ho7.2 g hg).1); clear hg9 hr9
                  refine hK.out _ _ ?_ (fun hHeld => ?_)
                  · (try dsimp only); first | done | (exact hS)
                  clear hK K
                  try simp only [Act.put, List.getElem_toArray, List.getElem_cons_succ, List.getElem_cons_zero, List.setIfInBounds_toArray, List.set_cons_zero, List.set_cons_succ]
                  first
                    | (refine wpAnyH_take (i := 12) (v := ?_) rfl (by kernel_rfl) (by kernel_rfl) (by kernel_rfl) (fun _ _ _ h => h) (Or.inl ⟨by rfl, ?_⟩) hHeld ?_; rotate_left; (intro wq hSw; (try dsimp only at hSw); go_simp; done))
                    | (refine wpAnyH_take (i := 12) (v := ?_) rfl (by kernel_rfl) (by kernel_rfl) (by kernel_rfl) (fun _ _ _ h => h) (Or.inl ⟨by rfl, ?_⟩) hHeld ?_; rotate_left; (intro wq hSw; (try dsimp only at hSw); go_simp; with_reducible rfl))
                    | refine wpAnyH_take (i := 12) (v := undef) rfl (by kernel_rfl) (by kernel_rfl) (by kernel_rfl) (fun _ _ _ h => h) (Or.inr ⟨by rfl, rfl⟩) hHeld ?_
                  try simp only [Act.put, List.getElem_toArray, List.getElem_cons_succ, List.getElem_cons_zero, List.setIfInBounds_toArray, List.set_cons_zero, List.set_cons_succ]
                  refine wpAnyH_done (by kernel_rfl) ?_ _
                  (have he : (oneK l x).length = k + 1 + 0 := (by have := HLEN.out; omega); have hl9 : l.take k ++ [x] ++ l.drop k = oneK l x := (by rw [HO.out, List.append_assoc]; rfl); rw [hl9, ← he] at ho9; rw [← he]; have HE := Lib.hid he; clear he hl9; go_wp2_with fail; go_ret; exact ⟨A9, c9, (by first | rfl | (rw [HLEN.out]; rfl)), ⟨ho9.1, Ow.rebase ho9.2 (Nat.le_of_lt lx)⟩, hbw.trans (hS.mono (Nat.le_of_lt lx))⟩)
                refine AllReadyH.cons rfl (fun K hK => ?_) AllReadyH.nil
                refine step_buildKn (by rfl) (.tmp 42) (by rfl) x (by rfl) ?_; intro B43 wx hxB hbx; replace hS := hS.trans (hbx.mono hS.size); (try replace hoB := OwR.below hoB hbx); clear hbx
                refine hK.out _ _ ?_ (fun hHeld => ?_)
                · (try dsimp only); first | done | (exact hS)
                clear hK K
                try simp only [Act.put, List.getElem_toArray, List.getElem_cons_succ, List.getElem_cons_zero, List.setIfInBounds_toArray, List.set_cons_zero, List.set_cons_succ]
                refine wpAnyH_ready (rs := [4]) (by kernel_rfl) (by simp) ?_
                refine AllReadyH.cons rfl (fun K hK => ?_) AllReadyH.nil
                refine step_appKn0 (by rfl) (.tmp 37) (.tmp 40) (by rfl) (w.alloc (.cells #[.string x.1, .string x.2.1, .int .i64 x.2.2.1, .int .i64 x.2.2.2] 110)).heap.size A0 (by rfl) _ _ k _ _ (by rfl) (hP.below hS) (by omega) hS.size ?_; intro A4 c4 w4 hoB hbx; replace hS := hS.trans (hbx.mono hS.size); (try replace hxB := (hxB.below hbx).more hbx.size); clear hbx
                refine hK.out _ _ ?_ (fun hHeld => ?_)
                · (try dsimp only); first | done | (exact hS)
                clear hK K
                try simp only [Act.put, List.getElem_toArray, List.getElem_cons_succ, List.getElem_cons_zero, List.setIfInBounds_toArray, List.set_cons_zero, List.set_cons_succ]
                refine wpAnyH_ready (rs := [7]) (by kernel_rfl) (by simp) ?_
                refine AllReadyH.cons rfl (fun K hK => ?_) AllReadyH.nil
                refine step_appKn (by rfl) (.tmp 41) (.tmp 43) (by rfl) (w.alloc (.cells #[.string x.1, .string x.2.1, .int .i64 x.2.2.1, .int .i64 x.2.2.2] 110)).heap.size _ _ _ _ (by rfl) hoB _ _ _ _ [x] (by rfl) hxB (by omega) hS.size ?_; intro A7 c7 w7 ho7 hg7 hr7; replace hS := hS.grown hg7 hS.size (fun g hg => (Ow.row hoB.2 g hg).1); clear hg7 hr7
                refine hK.out _ _ ?_ (fun hHeld => ?_)
                · (try dsimp only); first | done | (exact hS)
                clear hK K
                try simp only [Act.put, List.getElem_toArray, List.getElem_cons_succ, List.getElem_cons_zero, List.setIfInBounds_toArray, List.set_cons_zero, List.set_cons_succ]
                refine wpAnyH_ready (rs := [11]) (by kernel_rfl) (by simp) ?_
                refine AllReadyH.cons rfl (fun K hK => ?_) AllReadyH.nil
                refine step_appKn (by rfl) (.tmp 44) (.tmp 47) (by rfl) (w.alloc (.cells #[.string x.1, .string x.2.1, .int .i64 x.2.2.1, .int .i64 x.2.2.2] 110)).heap.size _ _ _ _ (by rfl) ho7 _ _ _ _ _ (by rfl) (hR.below hS) (by omega) hS.size ?_; intro A9 c9 w9 ho9 hg9 hr9; replace hS := hS.grown hg9 hS.size (fun g hg => (Ow.row ho7.2 g hg).1); clear hg9 hr9
                refine hK.out _ _ ?_ (fun hHeld => ?_)
                · (try dsimp only); first | done | (exact hS)
                clear hK K
                try simp only [Act.put, List.getElem_toArray, List.getElem_cons_succ, List.getElem_cons_zero, List.setIfInBounds_toArray, List.set_cons_zero, List.set_cons_succ]
                first
                  | (refine wpAnyH_take (i := 12) (v := ?_) rfl (by kernel_rfl) (by kernel_rfl) (by kernel_rfl) (fun _ _ _ h => h) (Or.inl ⟨by rfl, ?_⟩) hHeld ?_; rotate_left; (intro wq hSw; (try dsimp only at hSw); go_simp; done))
                  | (refine wpAnyH_take (i := 12) (v := ?_) rfl (by kernel_rfl) (by kernel_rfl) (by kernel_rfl) (fun _ _ _ h => h) (Or.inl ⟨by rfl, ?_⟩) hHeld ?_; rotate_left; (intro wq hSw; (try dsimp only at hSw); go_simp; with_reducible rfl))
                  | refine wpAnyH_take (i := 12) (v := undef) rfl (by kernel_rfl) (by kernel_rfl) (by kernel_rfl) (fun _ _ _ h => h) (Or.inr ⟨by rfl, rfl⟩) hHeld ?_
                try simp only [Act.put, List.getElem_toArray, List.getElem_cons_succ, List.getElem_cons_zero, List.setIfInBounds_toArray, List.set_cons_zero, List.set_cons_succ]
                refine wpAnyH_done (by kernel_rfl) ?_ _
                (have he : (oneK l x).length = k + 1 + 0 := (by have := HLEN.out; omega); have hl9 : l.take k ++ [x] ++ l.drop k = oneK l x := (by rw [HO.out, List.append_assoc]; rfl); rw [hl9, ← he] at ho9; rw [← he]; have HE := Lib.hid he; clear he hl9; go_wp2_with fail; go_ret; exact ⟨A9, c9, (by first | rfl | (rw [HLEN.out]; rfl)), ⟨ho9.1, Ow.rebase ho9.2 (Nat.le_of_lt lx)⟩, hbw.trans (hS.mono (Nat.le_of_lt lx))⟩)
              refine AllReadyH.cons rfl (fun K hK => ?_) AllReadyH.nil
              refine step_buildKn (by rfl) (.tmp 42) (by rfl) x (by rfl) ?_; intro B43 wx hxB hbx; replace hS := hS.trans (hbx.mono hS.size); (try replace hoB := OwR.below hoB hbx); clear hbx
              refine hK.out _ _ ?_ (fun hHeld => ?_)
              · (try dsimp only); first | done | (exact hS)
              clear hK K
              try simp only [Act.put, List.getElem_toArray, List.getElem_cons_succ, List.getElem_cons_zero, List.setIfInBounds_toArray, List.set_cons_zero, List.set_cons_succ]
              refine wpAnyH_ready (rs := [0]) (by kernel_rfl) (by simp) ?_
              refine AllReadyH.cons rfl (fun K hK => ?_) AllReadyH.nil
              refine step_buildKn0 (by rfl) (by rfl) ?_; intro A0 wx hbx; replace hS := hS.trans (hbx.mono hS.size); (try replace hxB := (hxB.below hbx).more hbx.size); clear hbx
              refine hK.out _ _ ?_ (fun hHeld => ?_)
              · (try dsimp only); first | done | (exact hS)
              clear hK K
              try simp only [Act.put, List.getElem_toArray, List.getElem_cons_succ, List.getElem_cons_zero, List.setIfInBounds_toArray, List.set_cons_zero, List.set_cons_succ]
              refine wpAnyH_ready (rs := [4]) (by kernel_rfl) (by simp) ?_
              refine AllReadyH.cons rfl (fun K hK => ?_) AllReadyH.nil
              refine step_appKn0 (by rfl) (.tmp 37) (.tmp 40) (by rfl) (w.alloc (.cells #[.string x.1, .string x.2.1, .int .i64 x.2.2.1, .int .i64 x.2.2.2] 110)).heap.size A0 (by rfl) _ _ k _ _ (by rfl) (hP.below hS) (by omega) hS.size ?_; intro A4 c4 w4 hoB hbx; replace hS := hS.trans (hbx.mono hS.size); (try replace hxB := (hxB.below hbx).more hbx.size); clear hbx
              refine hK.out _ _ ?_ (fun hHeld => ?_)
              · (try dsimp only); first | done | (exact hS)
              clear hK K
              try simp only [Act.put, List.getElem_toArray, List.getElem_cons_succ, List.getElem_cons_zero, List.setIfInBounds_toArray, List.set_cons_zero, List.set_cons_succ]
              refine wpAnyH_ready (rs := [7]) (by kernel_rfl) (by simp) ?_
              refine AllReadyH.cons rfl (fun K hK => ?_) AllReadyH.nil
              refine step_appKn (by rfl) (.tmp 41) (.tmp 43) (by rfl) (w.alloc (.cells #[.string x.1, .string x.2.1, .int .i64 x.2.2.1, .int .i64 x.2.2.2] 110)).heap.size _ _ _ _ (by rfl) hoB _ _ _ _ [x] (by rfl) hxB (by omega) hS.size ?_; intro A7 c7 w7 ho7 hg7 hr7; replace hS := hS.grown hg7 hS.size (fun g hg => (Ow.row hoB.2 g hg).1); clear hg7 hr7
              refine hK.out _ _ ?_ (fun hHeld => ?_)
              · (try dsimp only); first | done | (exact hS)
              clear hK K
              try simp only [Act.put, List.getElem_toArray, List.getElem_cons_succ, List.getElem_cons_zero, List.setIfInBounds_toArray, List.set_cons_zero, List.set_cons_succ]
              refine wpAnyH_ready (rs := [11]) (by kernel_rfl) (by simp) ?_
              refine AllReadyH.cons rfl (fun K hK => ?_) AllReadyH.nil
              refine step_appKn (by rfl) (.tmp 44) (.tmp 47) (by rfl) (w.alloc (.cells #[.string x.1, .string x.2.1, .int .i64 x.2.2.1, .int .i64 x.2.2.2] 110)).heap.size _ _ _ _ (by rfl) ho7 _ _ _ _ _ (by rfl) (hR.below hS) (by omega) hS.size ?_; intro A9 c9 w9 ho9 hg9 hr9; replace hS := hS.grown hg9 hS.size (fun g hg => (Ow.row ho7.2 g hg).1); clear hg9 hr9
              refine hK.out _ _ ?_ (fun hHeld => ?_)
              · (try dsimp only); first | done | (exact hS)
              clear hK K
              try simp only [Act.put, List.getElem_toArray, List.getElem_cons_succ, List.getElem_cons_zero, List.setIfInBounds_toArray, List.set_cons_zero, List.set_cons_succ]
              first
                | (refine wpAnyH_take (i := 12) (v := ?_) rfl (by kernel_rfl) (by kernel_rfl) (by kernel_rfl) (fun _ _ _ h => h) (Or.inl ⟨by rfl, ?_⟩) hHeld ?_; rotate_left; (intro wq hSw; (try dsimp only at hSw); go_simp; done))
                | (refine wpAnyH_take (i := 12) (v := ?_) rfl (by kernel_rfl) (by kernel_rfl) (by kernel_rfl) (fun _ _ _ h => h) (Or.inl ⟨by rfl, ?_⟩) hHeld ?_; rotate_left; (intro wq hSw; (try dsimp only at hSw); go_simp; with_reducible rfl))
                | refine wpAnyH_take (i := 12) (v := undef) rfl (by kernel_rfl) (by kernel_rfl) (by kernel_rfl) (fun _ _ _ h => h) (Or.inr ⟨by rfl, rfl⟩) hHeld ?_
              try simp only [Act.put, List.getElem_toArray, List.getElem_cons_succ, List.getElem_cons_zero, List.setIfInBounds_toArray, List.set_cons_zero, List.set_cons_succ]
              refine wpAnyH_done (by kernel_rfl) ?_ _
              (have he : (oneK l x).length = k + 1 + 0 := (by have := HLEN.out; omega); have hl9 : l.take k ++ [x] ++ l.drop k = oneK l x := (by rw [HO.out, List.append_assoc]; rfl); rw [hl9, ← he] at ho9; rw [← he]; have HE := Lib.hid he; clear he hl9; go_wp2_with fail; go_ret; exact ⟨A9, c9, (by first | rfl | (rw [HLEN.out]; rfl)), ⟨ho9.1, Ow.rebase ho9.2 (Nat.le_of_lt lx)⟩, hbw.trans (hS.mono (Nat.le_of_lt lx))⟩)
end Go.Proofs.Ytfahmfaakjnpcaa
