/-
  What ideal.Answer computes. Conditions: rows of at most 100.
-/
import Derived.Test.YthjanhfjehccoaaPoolWays
namespace Go.Proofs.Ythjanhfjehccoaa
set_option linter.unusedVariables false
set_option linter.unusedSimpArgs false
open Go.RowKit

theorem step_none {i : Idl} {p : Pnt} (h : ¬(0 ≤ p.kind ∧ p.kind < 7)) : (bareP i p).step = bareP i p := by
  have hk : (bareP i p).p.kind = p.kind := rfl
  unfold Pol.step
  rw [hk, if_neg (by omega), if_neg (by omega), if_neg (by omega), if_neg (by omega), if_neg (by omega), if_neg (by omega)]
/-- Who waits no longer lets the race be cancelled. -/
def endCut (i : Idl) (x : Pol) : Pol := if (x.i.line.length < i.line.length ∨ (x.i.closed = true ∧ i.closed = false)) ∧ x.i.line = [] ∧ x.i.on = true ∧ x.i.cut = false then { i := { x.i with cut := true }, p := { x.p with cut := true } } else x
/-- Who waits lets one start. -/
def endStart (y : Pol) : Pol := if y.i.closed = false ∧ y.i.on = false ∧ y.i.line ≠ [] then { i := { y.i with on := true, cut := false }, p := { y.p with start := true } } else y
theorem ends_eq (i : Idl) (x : Pol) : Pol.ends i x = endStart (endCut i x) := rfl
theorem endCut_eq {i : Idl} {Y : Pol} {L : Bool} (hL : (decide (Y.i.line.length < i.line.length) || (Y.i.closed && !i.closed)) = L) :
    endCut i Y = if L = true ∧ Y.i.line.length = 0 ∧ Y.i.on = true ∧ Y.i.cut = false then { i := { Y.i with cut := true }, p := { Y.p with cut := true } } else Y := by
  subst hL
  unfold endCut
  have he : ((Y.i.line.length < i.line.length ∨ (Y.i.closed = true ∧ i.closed = false)) ∧ Y.i.line = [] ∧ Y.i.on = true ∧ Y.i.cut = false) = ((decide (Y.i.line.length < i.line.length) || (Y.i.closed && !i.closed)) = true ∧ Y.i.line.length = 0 ∧ Y.i.on = true ∧ Y.i.cut = false) := by
    simp [List.length_eq_zero_iff]
  simp only [he]
theorem results_cell_cell {P : Program} {fn : Func} {t t2 : TypeId} {s u : Tmp} (h : fn.results = #[.cell s t, .cell u t2]) (tmps : Array Value) (w : World) (g g2 : Nat) (t' t2' : TypeId) (cs cs2 : Array Value) (fr fr2 : Nat × Nat) (d d2 : TypeDesc)
    (hs : tmps.getD s undef = .pointer (some ⟨g, 0, none⟩)) (hg : w.heap[g]? = some (.cells cs t' fr)) (hu : P.underlying t = some d) (hd : (match d with | .struct _ | .array _ _ => true | _ => false) = true) (hi : (P.info? t).map (·.size) = some cs.size)
    (hs2 : tmps.getD u undef = .pointer (some ⟨g2, 0, none⟩)) (hg2 : w.heap[g2]? = some (.cells cs2 t2' fr2)) (hu2 : P.underlying t2 = some d2) (hd2 : (match d2 with | .struct _ | .array _ _ => true | _ => false) = true) (hi2 : (P.info? t2).map (·.size) = some cs2.size) :
    (results fn tmps).run P w = .ok (.tuple #[.agg cs, .agg cs2]) w := by
  have hl := run_loadVar_row (P := P) w g t' t cs fr d hg hu hd hi
  have hl2 := run_loadVar_row (P := P) w g2 t2' t2 cs2 fr2 d2 hg2 hu2 hd2 hi2
  have hs' : tmps[s]?.getD undef = .pointer (some ⟨g, 0, none⟩) := by simpa using hs
  have hs2' : tmps[u]?.getD undef = .pointer (some ⟨g2, 0, none⟩) := by simpa using hs2
  simp [results, h, hs', hs2', asAddr, hl, hl2]
/-- How a pool stands while its answer is stored. -/
structure AnsEnd [Inhabited Ex] (z : Pol) (a : PlA) (w wx : World) : Prop where
  is_ : PlIs (w.heap.size + 4) wx (w.heap.size + 4) z a
  z2 : ∃ c, wx.heap[w.heap.size + 2]? = some (.cells c 50 (0, 0)) ∧ c.size = 15
  z3 : ∃ c, wx.heap[w.heap.size + 3]? = some (.cells c 38 (0, 0)) ∧ c.size = 14
  bel : Below w.heap.size w wx
theorem PlIs.aside [Inhabited Ex] {s : Nat} {wx : World} {z : Pol} {a : PlA} (h : PlIs (s + 4) wx (s + 4) z a) (b : Nat) (hb : b = s + 2 ∨ b = s + 3) (cs : Array Value) : PlIs (s + 4) (wx.setRow b cs) (s + 4) z a := by
  have hne : ∀ q, s + 4 ≤ q → q ≠ b := fun q hq => by omega
  refine ⟨(setRow_other _ _ _ _ (hne _ (Nat.le_refl _))).trans h.row, ⟨h.rep.1, h.rep.2.block fun q hq => setRow_other _ _ _ _ (hne q (Ow.row h.rep.2 q hq).1)⟩, Ow.block h.sh fun q hq => setRow_other _ _ _ _ (hne q (Ow.row h.sh q hq).1), ?_, h.few, h.gb, h.caps, h.xlt⟩
  refine h.lists.step (by simp) fun q hq hno => setRow_other _ _ _ _ ?_
  rintro rfl
  refine hno ?_
  unfold plOwn
  simp only [List.mem_cons, List.mem_append, List.not_mem_nil, or_false]
  rcases hb with rfl | rfl
  · exact .inr (.inr (.inr (.inr (.inl (by omega)))))
  · exact .inr (.inr (.inr (.inl (by omega))))
namespace AnsEnd
variable {z : Pol} {a : PlA} {w wx : World}
theorem drew [Inhabited Ex] (h : AnsEnd z a w wx) : AnsEnd z a w wx.drew := ⟨h.is_.below ⟨rfl, rfl, rfl, Nat.le_refl _, fun _ _ => rfl⟩, h.z2, h.z3, h.bel.drew⟩
theorem idAt [Inhabited Ex] (h : AnsEnd z a w wx) : wx.rangeAt (w.heap.size + 4) 0 (idCells z.i a).toList := by
  have := rangeAt_row h.is_.row
  refine rangeAt_sub this 0 _ fun j v hv => ?_
  rw [plCells_eq, Array.toList_append, Nat.zero_add, List.getElem?_append_left (List.getElem?_eq_some_iff.1 hv).1]
  exact hv
theorem ptAt [Inhabited Ex] (h : AnsEnd z a w wx) : wx.rangeAt (w.heap.size + 4) 15 (ptCells z.p a).toList := by
  have := rangeAt_row h.is_.row
  refine (Nat.zero_add 15) ▸ rangeAt_sub this 15 _ fun j v hv => ?_
  have hl : (idCells z.i a).toList.length = 15 := rfl
  rw [plCells_eq, Array.toList_append, List.getElem?_append_right (by rw [hl]; omega), hl, Nat.add_sub_cancel_left]
  exact hv
theorem row2 [Inhabited Ex] (h : AnsEnd z a w wx) (cs : Array Value) (hc : cs.size = 15) : AnsEnd z a w (wx.setRow (w.heap.size + 2) cs) ∧ (wx.setRow (w.heap.size + 2) cs).heap[w.heap.size + 2]? = some (.cells cs 50 (0, 0)) := by
  obtain ⟨c, h2, _⟩ := h.z2
  have hn := setRow_heap wx _ _ cs _ _ h2
  obtain ⟨c3, h3, h3s⟩ := h.z3
  exact ⟨⟨h.is_.aside _ (.inl rfl) cs, ⟨cs, hn, hc⟩, ⟨c3, (setRow_other _ _ _ _ (by omega)).trans h3, h3s⟩, h.bel.trans ⟨rfl, rfl, rfl, by simp, fun k hk => setRow_other _ _ _ _ (by omega)⟩⟩, hn⟩
theorem row3 [Inhabited Ex] (h : AnsEnd z a w wx) (cs : Array Value) (hc : cs.size = 14) : AnsEnd z a w (wx.setRow (w.heap.size + 3) cs) ∧ (wx.setRow (w.heap.size + 3) cs).heap[w.heap.size + 3]? = some (.cells cs 38 (0, 0)) := by
  obtain ⟨c, h3, _⟩ := h.z3
  have hn := setRow_heap wx _ _ cs _ _ h3
  obtain ⟨c2, h2, h2s⟩ := h.z2
  exact ⟨⟨h.is_.aside _ (.inr rfl) cs, ⟨c2, (setRow_other _ _ _ _ (by omega)).trans h2, h2s⟩, ⟨cs, hn, hc⟩, h.bel.trans ⟨rfl, rfl, rfl, by simp, fun k hk => setRow_other _ _ _ _ (by omega)⟩⟩, hn⟩
theorem rd [Inhabited Ex] (h : AnsEnd z a w wx) : Rd z a wx := ⟨h.is_.lists.at_, h.is_.rep.recs, OwI.ints h.is_.sh, h.is_.caps⟩
theorem rdStay [Inhabited Ex] (h : AnsEnd z a w wx) : Stay (fun b => b ∉ exs) wx (Rd z a) := fun w'' hs hb => by
  have hrow : ∀ q, w.heap.size + 4 ≤ q → q ∉ (exs : List Nat) := fun q hq hx => by have := h.is_.xlt q hx; omega
  have hR : OwRp w'' (w.heap.size + 4) a.rA z.p.rep.length a.rc z.p.rep := ⟨h.is_.rep.1, h.is_.rep.2.block fun q hq => hb q (Ow.row h.is_.rep.2 q hq).2 (hrow q (Ow.row h.is_.rep.2 q hq).1)⟩
  have hS : OwI w'' (w.heap.size + 4) 3 a.sA z.p.shut.length a.sc z.p.shut := Ow.block h.is_.sh fun q hq => hb q (Ow.row h.is_.sh q hq).2 (hrow q (Ow.row h.is_.sh q hq).1)
  exact ⟨h.is_.lists w'' hs fun b hl hno => hb b hl fun hx => hno (by unfold plOwn; simp [hx]), hR.recs, OwI.ints hS, h.is_.caps⟩
end AnsEnd
set_option maxRecDepth 100000 in
set_option maxHeartbeats 8000000 in
theorem answerX_any [Inhabited Ex] (i : Idl) (p : Pnt) (a : PlA) (w : World) (B0 : Nat) (h : AnsInX i p a w B0) :
    Calls Try.prog 15 #[.agg (idCells i a), .agg (ptCells p a)] w fun en w' => AnsPostX (answerP i p) w en w' := by
  have HZ : Hid (answerP i p = Pol.ends i (bareP i p).step) := Lib.hid (by unfold answerP bareP; rfl)
  go_enter Try.func15, Try.ntmps15
  go_upto_region 1 with fail
  change Code.wp _ _ _ _ (ansW i p a w)
  obtain ⟨hR, hsz, hbW⟩ := ansW_rows i p a w
  obtain ⟨W, hW⟩ : ∃ W, ansW i p a w = W := ⟨_, rfl⟩
  rw [hW] at hR hsz hbW ⊢
  clear hW
  have hRi := hR.ri
  have hRp := hR.rp
  have hrow : PlRow (W.alloc (.cells (plCells ⟨i, p⟩ a) 88)) W.heap.size ⟨i, p⟩ a := heap_alloc_new W _
  go_upto_region 2 with (first | (refine wpList_load_row rfl 50 _ rfl w.heap.size rfl 50 _ _ _ hRi Try.underlying50 rfl (by kernel_rfl) ?_) | (refine wpList_load_row rfl 38 _ rfl (w.heap.size + 1) rfl 38 _ _ _ hRp Try.underlying38 rfl (by kernel_rfl) ?_) | (refine wpList_buildAs rfl 88 _ rfl (plCells ⟨i, p⟩ a) (by kernel_rfl) ?_))
  rename_i K hK
  have HK := Lib.hid hK
  clear hK
  rw [hsz] at hrow
  obtain ⟨W1, hW1⟩ : ∃ W1, W.alloc (.cells (plCells ⟨i, p⟩ a) 88) = W1 := ⟨_, rfl⟩
  have hb1 : Below w.heap.size w W1 := hW1 ▸ hbW.trans ((Below.new_ W _).mono (by omega))
  have hR1 : AnsRows i p a w.heap.size W1 := hR.keep fun b hb => hW1 ▸ (Below.new_ W _).block b (by omega)
  rw [hW1] at hrow ⊢
  clear hW1 hRi hRp
  have r1 := hrow.set 25 (.slice none 0 0) (y := ⟨i, { p with rep := [] }⟩) (b := { a with rA := none, rc := 0 }) (by unfold plCells; simp)
  have r2 := r1.set 26 (.slice none 0 0) (y := ⟨i, { p with rep := [], shut := [] }⟩) (b := bareA a) (by unfold plCells bareA; simp)
  have r3 := r2.set 27 (.bool false) (y := ⟨i, { p with rep := [], shut := [], start := false }⟩) (b := bareA a) (by unfold plCells bareA; simp)
  have r4 := r3.set 28 (.bool false) (y := bareP i p) (b := bareA a) (by unfold plCells bareA bareP; simp)
  have e1 : W1.cell? ⟨w.heap.size + 4, 25, none⟩ = some (.slice a.rA p.rep.length a.rc) := hrow.cell rfl
  have e2 := r1.cell (i := 26) (v := .slice a.sA p.shut.length a.sc) rfl
  have e3 := r2.cell (i := 27) (v := .bool p.start) rfl
  have e4 := r3.cell (i := 28) (v := .bool p.cut) rfl
  have f1 := hrow.free 25
  have f2 := r1.free 26
  have f3 := r2.free 27
  have f4 := r3.free 28
  go_wp2_with fail
  refine HK.out _ _ (wp_seq_k ?_)
  clear HK
  intro K2 hK2
  obtain ⟨W2, hW2⟩ : ∃ W2, (((W1.setCell ⟨w.heap.size + 4, 25, none⟩ (.slice none 0 0)).setCell ⟨w.heap.size + 4, 26, none⟩ (.slice none 0 0)).setCell ⟨w.heap.size + 4, 27, none⟩ (.bool false)).setCell ⟨w.heap.size + 4, 28, none⟩ (.bool false) = W2 := ⟨_, rfl⟩
  have hbb : Below (w.heap.size + 4) W1 W2 := hW2 ▸ ((((Below.refl _ _).setCell (p := ⟨w.heap.size + 4, 25, none⟩) (Nat.le_refl (w.heap.size + 4)) _).setCell (p := ⟨w.heap.size + 4, 26, none⟩) (Nat.le_refl (w.heap.size + 4)) _).setCell (p := ⟨w.heap.size + 4, 27, none⟩) (Nat.le_refl (w.heap.size + 4)) _).setCell (p := ⟨w.heap.size + 4, 28, none⟩) (Nat.le_refl (w.heap.size + 4)) _
  have hb2 : Below w.heap.size w W2 := hb1.trans (hbb.mono (by omega))
  have hR2 : AnsRows i p a w.heap.size W2 := hR1.keep fun b hb => hbb.block b hb
  rw [hW2] at r4 ⊢
  have h2 : PlIs (w.heap.size + 4) W2 (w.heap.size + 4) (bareP i p) (bareA a) := bare_is h rfl r4 hb2
  have h2lt : w.heap.size + 4 < W2.heap.size := h2.row.lt
  clear hW2 r4 r1 r2 r3 hrow hb1 hR1 e1 e2 e3 e4 f1 f2 f3 f4 hbb hR hbW hsz W1 W
  go_cut [7] (fun _ wx => AnsMid i p a w (bareP i p).step wx)
  case first =>
    have k0 : W2.cell? ⟨w.heap.size + 1, 0, none⟩ = some (.int .i8 p.kind) := by rw [cell_of_row _ _ 0 _ _ _ hR2.rp]; rfl
    by_cases hk : 0 ≤ p.kind ∧ p.kind < 7
    · obtain ⟨k, hk2⟩ : ∃ k : Nat, p.kind = (k : Int) := ⟨p.kind.toNat, by omega⟩
      have hk7 : k < 7 := by omega
      have d1 : decide ((0 : Int) ≤ (k : Int)) = true := decide_eq_true (by omega)
      have d2 : decide ((k : Int) < 7) = true := decide_eq_true (by omega)
      have d3 : IntKind.i64.wrap (k : Int) = (k : Int) := IntWalk.i64_in _ (by omega)
      rw [hk2] at k0
      clear hk
      go_wp2_with fail
      refine (ways_any W2).mono ?_
      rintro e W3 ⟨rfl, hb3⟩
      go_upto_region 4 with (first | (refine wpList_store_row rfl 90 _ _ rfl W3.heap.size wayCells rfl rfl 90 _ (heap_alloc_new _ _) (by kernel_rfl) (by kernel_rfl) (by kernel_rfl) ?_; rw [World.setRow_alloc_new]))
      obtain ⟨W4, hW4⟩ : ∃ W4, W3.alloc (.cells wayCells 90) = W4 := ⟨_, rfl⟩
      have hb4 : Below W3.heap.size W3 W4 := hW4 ▸ Below.new_ W3 _
      have hb24 : Below W2.heap.size W2 W4 := hb3.trans (hb4.mono hb3.size)
      have hr4 : W4.heap[W3.heap.size]? = some (.cells wayCells 90 (0, 0)) := hW4 ▸ heap_alloc_new W3 _
      rw [hW4]
      clear hW4
      have h4 := h2.below hb24
      obtain ⟨fid, hw, eg, hcall⟩ := way_any h4 rfl rfl h.free h.out h.line h.dead k hk2 hk7
      have c4 : W4.cell? ⟨W3.heap.size, k, none⟩ = some (.func (.func fid) #[] #[]) := by rw [cell_of_row _ _ k _ _ _ hr4]; exact hw
      have k4 : W4.cell? ⟨w.heap.size + 1, 0, none⟩ = some (.int .i8 k) := (hb24.cell (p := ⟨w.heap.size + 1, 0, none⟩) (by show w.heap.size + 1 < W2.heap.size; omega)).trans k0
      have d4 : (0 : Int) ≤ (k : Int) := by omega
      have d5 : (k : Int) < 7 := by omega
      clear k0 hr4 hw h2
      go_wp2_with (go_at_fn fid; refine hcall.mono ?_; rintro e W5 ⟨a5, rfl, h5, hb5, hc5⟩)
      go_meet
      case rel => exact ⟨a5, h5, hR2.keep fun b hb => (hb5.block b (by have := h2lt; omega)).trans (hb24.block b (by have := h2lt; omega)), hb2.trans ((hb24.mono (by have := h2lt; omega)).trans (hb5.mono (by omega)))⟩
    · have hst : (bareP i p).step = bareP i p := step_none hk
      by_cases h0 : 0 ≤ p.kind
      · have d1 : decide ((0 : Int) ≤ p.kind) = true := decide_eq_true h0
        have d2 : decide (p.kind < 7) = false := decide_eq_false (by omega)
        have hkb := h.kind
        have d3 : IntKind.i64.wrap p.kind = p.kind := IntWalk.i64_in _ (by omega)
        clear h0 hk hkb
        go_wp2_with fail
        refine (ways_any W2).mono ?_
        rintro e W3 ⟨rfl, hb3⟩
        go_upto_region 4 with (first | (refine wpList_store_row rfl 90 _ _ rfl W3.heap.size wayCells rfl rfl 90 _ (heap_alloc_new _ _) (by kernel_rfl) (by kernel_rfl) (by kernel_rfl) ?_; rw [World.setRow_alloc_new]))
        obtain ⟨W4, hW4⟩ : ∃ W4, W3.alloc (.cells wayCells 90) = W4 := ⟨_, rfl⟩
        have hb4 : Below W3.heap.size W3 W4 := hW4 ▸ Below.new_ W3 _
        have hb24 : Below W2.heap.size W2 W4 := hb3.trans (hb4.mono hb3.size)
        rw [hW4]
        clear hW4
        have k4 : W4.cell? ⟨w.heap.size + 1, 0, none⟩ = some (.int .i8 p.kind) := (hb24.cell (p := ⟨w.heap.size + 1, 0, none⟩) (by show w.heap.size + 1 < W2.heap.size; omega)).trans k0
        clear k0
        go_wp2_with fail
        go_meet
        case rel => show AnsMid _ _ _ _ _ _; rw [hst]; exact ⟨_, h2.below hb24, hR2.keep fun b hb => hb24.block b (by omega), hb2.trans (hb24.mono (by omega))⟩
      · have d1 : decide ((0 : Int) ≤ p.kind) = false := decide_eq_false h0
        clear h0 hk
        go_wp2_with fail
        refine (ways_any W2).mono ?_
        rintro e W3 ⟨rfl, hb3⟩
        go_upto_region 4 with (first | (refine wpList_store_row rfl 90 _ _ rfl W3.heap.size wayCells rfl rfl 90 _ (heap_alloc_new _ _) (by kernel_rfl) (by kernel_rfl) (by kernel_rfl) ?_; rw [World.setRow_alloc_new]))
        obtain ⟨W4, hW4⟩ : ∃ W4, W3.alloc (.cells wayCells 90) = W4 := ⟨_, rfl⟩
        have hb4 : Below W3.heap.size W3 W4 := hW4 ▸ Below.new_ W3 _
        have hb24 : Below W2.heap.size W2 W4 := hb3.trans (hb4.mono hb3.size)
        rw [hW4]
        clear hW4
        have k4 : W4.cell? ⟨w.heap.size + 1, 0, none⟩ = some (.int .i8 p.kind) := (hb24.cell (p := ⟨w.heap.size + 1, 0, none⟩) (by show w.heap.size + 1 < W2.heap.size; omega)).trans k0
        clear k0
        go_wp2_with fail
        go_meet
        case rel => show AnsMid _ _ _ _ _ _; rw [hst]; exact ⟨_, h2.below hb24, hR2.keep fun b hb => hb24.block b (by omega), hb2.trans (hb24.mono (by omega))⟩
  case rest =>
    clear hb2 hR2 h2 h2lt W2
    obtain ⟨Y, hY⟩ : ∃ Y, Hid ((bareP i p).step = Y) := ⟨_, Lib.hid rfl⟩
    rw [hY.out] at hcut
    have HZ2 : Hid (answerP i p = endStart (endCut i Y)) := Lib.hid (by rw [← hY.out]; exact HZ.out.trans (ends_eq i _))
    clear HZ hY
    refine hK2 _ _ (wp_seq_k ?_)
    clear hK2
    intro K3 hK3
    go_cut [8] (fun _ wx => AnsMid i p a w (endCut i Y) wx)
    case first =>
      refine wp_seq_k ?_
      intro K4 hK4
      obtain ⟨L, hL⟩ : ∃ L, Hid ((decide (Y.i.line.length < i.line.length) || (Y.i.closed && !i.closed)) = L) := ⟨_, Lib.hid rfl⟩
      go_cut [8] (fun s8 wx => s8 = .bool L ∧ AnsMid i p a w Y wx)
      case first =>
        obtain ⟨a1, h1, hR1, hb1⟩ := hcut
        have c11 : wc.cell? ⟨w.heap.size + 4, 11, none⟩ = some (.slice a1.lA Y.i.line.length a1.lc) := h1.row.cell rfl
        have c14 : wc.cell? ⟨w.heap.size + 4, 14, none⟩ = some (.bool Y.i.closed) := h1.row.cell rfl
        have i11 : wc.cell? ⟨w.heap.size, 11, none⟩ = some (.slice a.lA i.line.length a.lc) := by rw [cell_of_row _ _ 11 _ _ _ hR1.ri]; rfl
        have i14 : wc.cell? ⟨w.heap.size, 14, none⟩ = some (.bool i.closed) := by rw [cell_of_row _ _ 14 _ _ _ hR1.ri]; rfl
        have hmid : ∀ nq, AnsMid i p a w Y (wc.drewN nq) := fun nq => ⟨a1, h1.drewN nq, hR1.keep fun _ _ => rfl, hb1.trans ⟨rfl, rfl, rfl, Nat.le_refl _, fun _ _ => rfl⟩⟩
        obtain ⟨n, hn⟩ : ∃ n, Y.i.line.length = n := ⟨_, rfl⟩
        obtain ⟨m, hm⟩ : ∃ n, i.line.length = n := ⟨_, rfl⟩
        obtain ⟨cl, hcl⟩ : ∃ n, Y.i.closed = n := ⟨_, rfl⟩
        obtain ⟨ci, hci⟩ : ∃ n, i.closed = n := ⟨_, rfl⟩
        rw [hn, hm, hcl, hci] at hL
        rw [hn] at c11
        rw [hm] at i11
        rw [hcl] at c14
        rw [hci] at i14
        clear hn hm hcl hci h1 hR1 hb1 HZ2
        rcases Nat.lt_or_ge n m with hl | hl
        · have d1 : decide ((n : Int) < (m : Int)) = true := decide_eq_true (by omega)
          have d2 : decide (n < m) = true := decide_eq_true hl
          have HL : Hid (L = true) := Lib.hid (by rw [← hL.out]; simp [hl])
          clear hL hl
          go_quiet (fail)
          rename_i nq
          go_wp2_with fail
          go_meet
          case rel => exact ⟨by rw [HL.out], hmid nq⟩
        · have d1 : decide ((n : Int) < (m : Int)) = false := decide_eq_false (by omega)
          have hl2 : decide (n < m) = false := decide_eq_false (by omega)
          have HL : Hid (L = (cl && !ci)) := Lib.hid (by rw [← hL.out, hl2]; simp)
          clear hL hl
          cases cl
          · go_quiet (fail)
            rename_i nq
            go_wp2_with fail
            go_meet
            case rel => exact ⟨by rw [HL.out]; rfl, hmid nq⟩
          · cases ci
            · go_quiet (fail)
              rename_i nq
              go_wp2_with fail
              go_meet
              case rel => exact ⟨by rw [HL.out]; rfl, hmid nq⟩
            · go_quiet (fail)
              rename_i nq
              go_wp2_with fail
              go_meet
              case rel => exact ⟨by rw [HL.out]; rfl, hmid nq⟩
      case rest =>
        obtain ⟨rfl, a1, h1, hR1, hb1⟩ := hcut
        have HE : Hid (endCut i Y = if L = true ∧ Y.i.line.length = 0 ∧ Y.i.on = true ∧ Y.i.cut = false then { i := { Y.i with cut := true }, p := { Y.p with cut := true } } else Y) := Lib.hid (endCut_eq hL.out)
        have c11 : wc.cell? ⟨w.heap.size + 4, 11, none⟩ = some (.slice a1.lA Y.i.line.length a1.lc) := h1.row.cell rfl
        have c12 : wc.cell? ⟨w.heap.size + 4, 12, none⟩ = some (.bool Y.i.on) := h1.row.cell rfl
        have c13 : wc.cell? ⟨w.heap.size + 4, 13, none⟩ = some (.bool Y.i.cut) := h1.row.cell rfl
        have hmid : AnsMid i p a w Y wc := ⟨a1, h1, hR1, hb1⟩
        clear hL HZ2
        cases L
        · have hy : Hid (endCut i Y = Y) := Lib.hid (HE.out.trans (if_neg (by simp)))
          clear HE c11 c12 c13
          go_wp2_with fail
          go_meet
          case rel => show AnsMid _ _ _ _ _ _; rw [hy.out]; exact hmid
        · by_cases hn : Y.i.line.length = 0
          · rw [hn] at c11
            by_cases ho : Y.i.on = true
            · rw [ho] at c12
              by_cases hc : Y.i.cut = false
              · rw [hc] at c13
                have hy := Lib.hid (HE.out.trans (if_pos ⟨rfl, hn, ho, hc⟩))
                have f13 := h1.row.free 13
                obtain ⟨h2, hb2, _⟩ := h1.setCut true
                have c28 : (wc.setCell ⟨w.heap.size + 4, 13, none⟩ (.bool true)).cell? ⟨w.heap.size + 4, 28, none⟩ = some (.bool Y.p.cut) := h2.row.cell rfl
                have f28 := h2.row.free 28
                obtain ⟨h3, hb3, _⟩ := h2.setPcut true
                have hb13 := hb2.trans hb3
                have hmid2 : AnsMid i p a w (endCut i Y) ((wc.setCell ⟨w.heap.size + 4, 13, none⟩ (.bool true)).setCell ⟨w.heap.size + 4, 28, none⟩ (.bool true)) := by
                  rw [hy.out]
                  exact ⟨a1, h3, hR1.keep fun b hb => hb13.block b hb, hb1.trans (hb13.mono (by omega))⟩
                clear HE hn ho hc hy h1 h2 h3
                go_wp2_with fail
                go_meet
                case rel => exact hmid2
              · have hy : Hid (endCut i Y = Y) := Lib.hid (HE.out.trans (if_neg fun h => hc h.2.2.2))
                have hc2 : Y.i.cut = true := by simpa using hc
                rw [hc2] at c13
                clear HE hn ho hc hc2
                go_wp2_with fail
                go_meet
                case rel => show AnsMid _ _ _ _ _ _; rw [hy.out]; exact hmid
            · have hy : Hid (endCut i Y = Y) := Lib.hid (HE.out.trans (if_neg fun h => ho h.2.2.1))
              have ho2 : Y.i.on = false := by simpa using ho
              rw [ho2] at c12
              clear HE hn ho ho2 c13
              go_wp2_with fail
              go_meet
              case rel => show AnsMid _ _ _ _ _ _; rw [hy.out]; exact hmid
          · have hy : Hid (endCut i Y = Y) := Lib.hid (HE.out.trans (if_neg fun h => hn h.2.1))
            have d1 : ((Y.i.line.length : Int) == 0) = false := by simp; exact fun e => hn (by simp [e])
            have d2 : decide ((Y.i.line.length : Int) = 0) = false := decide_eq_false (by omega)
            have d3 : (Y.i.line.length == 0) = false := by simpa using hn
            have d4 : decide (Y.i.line = []) = false := decide_eq_false fun e => hn (by simp [e])
            clear HE hn c12 c13
            go_wp2_with fail
            go_meet
            case rel => show AnsMid _ _ _ _ _ _; rw [hy.out]; exact hmid
    case rest => 
      obtain ⟨Z, hZ⟩ : ∃ Z, Hid (endCut i Y = Z) := ⟨_, Lib.hid rfl⟩
      rw [hZ.out] at hcut
      have HZ3 : Hid (answerP i p = endStart Z) := Lib.hid (by rw [← hZ.out]; exact HZ2.out)
      clear HZ2 hZ
      refine hK3 _ _ (wp_seq_k ?_)
      clear hK3
      intro K5 hK5
      go_cut [8] (fun _ wx => AnsMid i p a w (endStart Z) wx)
      case first =>
        obtain ⟨a1, h1, hR1, hb1⟩ := hcut
        have c11 : wc.cell? ⟨w.heap.size + 4, 11, none⟩ = some (.slice a1.lA Z.i.line.length a1.lc) := h1.row.cell rfl
        have c12 : wc.cell? ⟨w.heap.size + 4, 12, none⟩ = some (.bool Z.i.on) := h1.row.cell rfl
        have c14 : wc.cell? ⟨w.heap.size + 4, 14, none⟩ = some (.bool Z.i.closed) := h1.row.cell rfl
        have hmid : AnsMid i p a w Z wc := ⟨a1, h1, hR1, hb1⟩
        clear HZ3
        by_cases hc : Z.i.closed = false
        · rw [hc] at c14
          by_cases ho : Z.i.on = false
          · rw [ho] at c12
            by_cases hn : Z.i.line.length = 0
            · have hy : Hid (endStart Z = Z) := Lib.hid (if_neg fun h => h.2.2 (List.eq_nil_of_length_eq_zero hn))
              rw [hn] at c11
              clear hn ho hc
              go_wp2_with fail
              go_meet
              case rel => show AnsMid _ _ _ _ _ _; rw [hy.out]; exact hmid
            · have hy : Hid (endStart Z = { i := { Z.i with on := true, cut := false }, p := { Z.p with start := true } }) := Lib.hid (by unfold endStart; exact if_pos ⟨hc, ho, fun e => hn (by rw [e]; rfl)⟩)
              have f12 := h1.row.free 12
              obtain ⟨h2, hb2, _⟩ := h1.setOn true
              have c13 : (wc.setCell ⟨w.heap.size + 4, 12, none⟩ (.bool true)).cell? ⟨w.heap.size + 4, 13, none⟩ = some (.bool Z.i.cut) := h2.row.cell rfl
              have f13 := h2.row.free 13
              obtain ⟨h3, hb3, _⟩ := h2.setCut false
              have c27 : ((wc.setCell ⟨w.heap.size + 4, 12, none⟩ (.bool true)).setCell ⟨w.heap.size + 4, 13, none⟩ (.bool false)).cell? ⟨w.heap.size + 4, 27, none⟩ = some (.bool Z.p.start) := h3.row.cell rfl
              have f27 := h3.row.free 27
              obtain ⟨h4, hb4, _⟩ := h3.setStart true
              have hb13 := (hb2.trans hb3).trans hb4
              have hmid2 : AnsMid i p a w (endStart Z) (((wc.setCell ⟨w.heap.size + 4, 12, none⟩ (.bool true)).setCell ⟨w.heap.size + 4, 13, none⟩ (.bool false)).setCell ⟨w.heap.size + 4, 27, none⟩ (.bool true)) := by
                rw [hy.out]
                exact ⟨a1, h4, hR1.keep fun b hb => hb13.block b hb, hb1.trans (hb13.mono (by omega))⟩
              have d1 : decide ((0 : Int) < (Z.i.line.length : Int)) = true := decide_eq_true (by omega)
              have d2 : decide (0 < Z.i.line.length) = true := decide_eq_true (by omega)
              have d4 : decide (Z.i.line = []) = false := decide_eq_false fun e => hn (by simp [e])
              clear hn ho hc hy h1 h2 h3 h4
              go_wp2_with fail
              go_meet
              case rel => exact hmid2
          · have hy : Hid (endStart Z = Z) := Lib.hid (if_neg fun h => ho h.2.1)
            have ho2 : Z.i.on = true := by simpa using ho
            rw [ho2] at c12
            clear ho ho2 hc c11
            go_wp2_with fail
            go_meet
            case rel => show AnsMid _ _ _ _ _ _; rw [hy.out]; exact hmid
        · have hy : Hid (endStart Z = Z) := Lib.hid (if_neg fun h => hc h.1)
          have hc2 : Z.i.closed = true := by simpa using hc
          rw [hc2] at c14
          clear hc hc2 c11 c12
          go_wp2_with fail
          go_meet
          case rel => show AnsMid _ _ _ _ _ _; rw [hy.out]; exact hmid
      case rest =>
        obtain ⟨Y4, h4⟩ : ∃ Y4, Hid (endStart Z = Y4) := ⟨_, Lib.hid rfl⟩
        rw [h4.out] at hcut
        obtain ⟨a1, h1, hR1, hb1⟩ := hcut
        have hE : AnsEnd Y4 a1 w wc := ⟨h1, ⟨_, hR1.zi, rfl⟩, ⟨_, hR1.zp, rfl⟩, hb1⟩
        have HZ4 : Hid (answerP i p = Y4) := Lib.hid (HZ3.out.trans h4.out)
        have hSd : AnsEnd Y4 a1 w wc.drew := hE.drew
        clear HZ3 h4 h1 hR1 hb1 hE
        go_upto_region 11 with fail
        refine wp_region_held_drew (S := (fun wx => AnsEnd Y4 a1 w wx)) (by kernel_rfl) ?_ (fun hHeld => ?_)
        · (try dsimp only); first | done | ((first | exact hS | exact hSd | skip))
        first
         | (refine wpAnyH_take (i := 0) (v := ?_) rfl (by kernel_rfl) (by kernel_rfl) (by kernel_rfl) (fun _ _ _ h => h) (Or.inl ⟨by rfl, ?_⟩) hHeld ?_; rotate_left; (intro wq hSw; (try dsimp only at hSw); go_simp; done))
         | (refine wpAnyH_take (i := 0) (v := ?_) rfl (by kernel_rfl) (by kernel_rfl) (by kernel_rfl) (fun _ _ _ h => h) (Or.inl ⟨by rfl, ?_⟩) hHeld ?_; rotate_left; (intro wq hSw; (try dsimp only at hSw); go_simp; with_reducible rfl))
         | refine wpAnyH_take (i := 0) (v := undef) rfl (by kernel_rfl) (by kernel_rfl) (by kernel_rfl) (fun _ _ _ h => h) (Or.inr ⟨by rfl, rfl⟩) hHeld ?_
        try simp only [Act.put, List.getElem_toArray, List.getElem_cons_succ, List.getElem_cons_zero, List.setIfInBounds_toArray, List.set_cons_zero, List.set_cons_succ]
        first
         | (refine wpAnyH_take (i := 4) (v := ?_) rfl (by kernel_rfl) (by kernel_rfl) (by kernel_rfl) (fun _ _ _ h => h) (Or.inl ⟨by rfl, ?_⟩) hHeld ?_; rotate_left; (intro wq hSw; (try dsimp only at hSw); go_simp; done))
         | (refine wpAnyH_take (i := 4) (v := ?_) rfl (by kernel_rfl) (by kernel_rfl) (by kernel_rfl) (fun _ _ _ h => h) (Or.inl ⟨by rfl, ?_⟩) hHeld ?_; rotate_left; (intro wq hSw; (try dsimp only at hSw); go_simp; with_reducible rfl))
         | refine wpAnyH_take (i := 4) (v := undef) rfl (by kernel_rfl) (by kernel_rfl) (by kernel_rfl) (fun _ _ _ h => h) (Or.inr ⟨by rfl, rfl⟩) hHeld ?_
        try simp only [Act.put, List.getElem_toArray, List.getElem_cons_succ, List.getElem_cons_zero, List.setIfInBounds_toArray, List.set_cons_zero, List.set_cons_succ]
        first
         | (refine wpAnyH_take (i := 1) (v := ?_) rfl (by kernel_rfl) (by kernel_rfl) (by kernel_rfl) (fun _ _ _ h => h) (Or.inl ⟨by rfl, ?_⟩) hHeld ?_; rotate_left; (intro wq hSw; (try dsimp only at hSw); go_simp; done))
         | (refine wpAnyH_take (i := 1) (v := ?_) rfl (by kernel_rfl) (by kernel_rfl) (by kernel_rfl) (fun _ _ _ h => h) (Or.inl ⟨by rfl, ?_⟩) hHeld ?_; rotate_left; (intro wq hSw; (try dsimp only at hSw); go_simp; with_reducible rfl))
         | refine wpAnyH_take (i := 1) (v := undef) rfl (by kernel_rfl) (by kernel_rfl) (by kernel_rfl) (fun _ _ _ h => h) (Or.inr ⟨by rfl, rfl⟩) hHeld ?_
        try simp only [Act.put, List.getElem_toArray, List.getElem_cons_succ, List.getElem_cons_zero, List.setIfInBounds_toArray, List.set_cons_zero, List.set_cons_succ]
        first
         | (refine wpAnyH_take (i := 5) (v := ?_) rfl (by kernel_rfl) (by kernel_rfl) (by kernel_rfl) (fun _ _ _ h => h) (Or.inl ⟨by rfl, ?_⟩) hHeld ?_; rotate_left; (intro wq hSw; (try dsimp only at hSw); go_simp; done))
         | (refine wpAnyH_take (i := 5) (v := ?_) rfl (by kernel_rfl) (by kernel_rfl) (by kernel_rfl) (fun _ _ _ h => h) (Or.inl ⟨by rfl, ?_⟩) hHeld ?_; rotate_left; (intro wq hSw; (try dsimp only at hSw); go_simp; with_reducible rfl))
         | refine wpAnyH_take (i := 5) (v := undef) rfl (by kernel_rfl) (by kernel_rfl) (by kernel_rfl) (fun _ _ _ h => h) (Or.inr ⟨by rfl, rfl⟩) hHeld ?_
        try simp only [Act.put, List.getElem_toArray, List.getElem_cons_succ, List.getElem_cons_zero, List.setIfInBounds_toArray, List.set_cons_zero, List.set_cons_succ]
        first
         | (refine wpAnyH_take (i := 2) (v := ?_) rfl (by kernel_rfl) (by kernel_rfl) (by kernel_rfl) (fun _ _ _ h => h) (Or.inl ⟨by rfl, ?_⟩) hHeld ?_; rotate_left; (intro wq hSw; (try dsimp only at hSw); go_simp; done))
         | (refine wpAnyH_take (i := 2) (v := ?_) rfl (by kernel_rfl) (by kernel_rfl) (by kernel_rfl) (fun _ _ _ h => h) (Or.inl ⟨by rfl, ?_⟩) hHeld ?_; rotate_left; (intro wq hSw; (try dsimp only at hSw); go_simp; with_reducible rfl))
         | refine wpAnyH_take (i := 2) (v := undef) rfl (by kernel_rfl) (by kernel_rfl) (by kernel_rfl) (fun _ _ _ h => h) (Or.inr ⟨by rfl, rfl⟩) hHeld ?_
        try simp only [Act.put, List.getElem_toArray, List.getElem_cons_succ, List.getElem_cons_zero, List.setIfInBounds_toArray, List.set_cons_zero, List.set_cons_succ]
        first
         | (refine wpAnyH_take (i := 6) (v := ?_) rfl (by kernel_rfl) (by kernel_rfl) (by kernel_rfl) (fun _ _ _ h => h) (Or.inl ⟨by rfl, ?_⟩) hHeld ?_; rotate_left; (intro wq hSw; (try dsimp only at hSw); go_simp; done))
         | (refine wpAnyH_take (i := 6) (v := ?_) rfl (by kernel_rfl) (by kernel_rfl) (by kernel_rfl) (fun _ _ _ h => h) (Or.inl ⟨by rfl, ?_⟩) hHeld ?_; rotate_left; (intro wq hSw; (try dsimp only at hSw); go_simp; with_reducible rfl))
         | refine wpAnyH_take (i := 6) (v := undef) rfl (by kernel_rfl) (by kernel_rfl) (by kernel_rfl) (fun _ _ _ h => h) (Or.inr ⟨by rfl, rfl⟩) hHeld ?_
        try simp only [Act.put, List.getElem_toArray, List.getElem_cons_succ, List.getElem_cons_zero, List.setIfInBounds_toArray, List.set_cons_zero, List.set_cons_succ]
        refine wpAnyH_take (i := 3) (v := (.agg (idCells Y4.i a1))) rfl (by kernel_rfl) (by kernel_rfl) (by kernel_rfl) (fun _ _ _ h => h) (Or.inl ⟨by rfl, ?_⟩) hHeld ?_
        · intro wq hSw; (try dsimp only at hSw); exact exec_loadMid 50 _ rfl (w.heap.size + 4) 0 rfl (idCells Y4.i a1).toList _ hSw.idAt Try.underlying50 rfl (by kernel_rfl)
        try simp only [Act.put, List.getElem_toArray, List.getElem_cons_succ, List.getElem_cons_zero, List.setIfInBounds_toArray, List.set_cons_zero, List.set_cons_succ]
        refine wpAnyH_take (i := 7) (v := (.agg (ptCells Y4.p a1))) rfl (by kernel_rfl) (by kernel_rfl) (by kernel_rfl) (fun _ _ _ h => h) (Or.inl ⟨by rfl, ?_⟩) hHeld ?_
        · intro wq hSw; (try dsimp only at hSw); exact exec_loadMid 38 _ rfl (w.heap.size + 4) 15 rfl (ptCells Y4.p a1).toList _ hSw.ptAt Try.underlying38 rfl (by kernel_rfl)
        try simp only [Act.put, List.getElem_toArray, List.getElem_cons_succ, List.getElem_cons_zero, List.setIfInBounds_toArray, List.set_cons_zero, List.set_cons_succ]
        refine wpAnyH_ready (rs := [8]) (by kernel_rfl) (by simp) ?_
        refine AllReadyH.cons rfl (fun K hK => ?_) AllReadyH.nil
        obtain ⟨z, hz, hzs⟩ := hHeld.z2; refine step_storeRow (by rfl) 50 _ _ rfl (w.heap.size + 2) (idCells Y4.i a1) rfl rfl 50 _ hz (by kernel_rfl) hzs (by kernel_rfl) ?_; obtain ⟨hS, hr2⟩ := hHeld.row2 (idCells Y4.i a1) rfl
        refine hK.out _ _ ?_ (fun hHeld => ?_)
        · (try dsimp only); first | done | ((first | exact hS | exact hSd | skip))
        clear hK K
        try simp only [Act.put, List.getElem_toArray, List.getElem_cons_succ, List.getElem_cons_zero, List.setIfInBounds_toArray, List.set_cons_zero, List.set_cons_succ]
        refine wpAnyH_ready (rs := [9]) (by kernel_rfl) (by simp) ?_
        refine AllReadyH.cons rfl (fun K hK => ?_) AllReadyH.nil
        obtain ⟨z, hz, hzs⟩ := hHeld.z3; refine step_storeRow (by rfl) 38 _ _ rfl (w.heap.size + 3) (ptCells Y4.p a1) rfl rfl 38 _ hz (by kernel_rfl) hzs (by kernel_rfl) ?_; obtain ⟨hS, hr3⟩ := hHeld.row3 (ptCells Y4.p a1) rfl
        refine hK.out _ _ ?_ (fun hHeld => ?_)
        · (try dsimp only); first | done | ((first | exact hS | exact hSd | skip))
        clear hK K
        try simp only [Act.put, List.getElem_toArray, List.getElem_cons_succ, List.getElem_cons_zero, List.setIfInBounds_toArray, List.set_cons_zero, List.set_cons_succ]
        refine wpAnyH_done (by kernel_rfl) ?_ _
        (go_wp2_with fail; refine bodyPost_ret (results_cell_cell Try.results15 _ _ (w.heap.size + 2) (w.heap.size + 3) _ _ (idCells Y4.i a1) (ptCells Y4.p a1) _ _ _ _ rfl ((setRow_other _ _ _ _ (by omega)).trans hr2) Try.underlying50 rfl (by kernel_rfl) rfl hr3 Try.underlying38 rfl (by kernel_rfl)) rfl ?_; rw [HZ4.out]; exact ⟨a1, rfl, hHeld.rd, hHeld.bel, hHeld.rdStay⟩)
theorem answer_any (i : Idl) (p : Pnt) (a : PlA) (w : World) (h : AnsIn i p a w) :
    Calls Try.prog 15 #[.agg (idCells i a), .agg (ptCells p a)] w fun en w' => AnsPost (answerP i p) w en w' :=
  (answerX_any i p a w w.heap.size ⟨h.ls.1, h.ls.2.1, h.ls.2.2.1, h.ls.2.2.2, Nat.le_refl _, fun q hq => absurd (show q ∈ ([] : List Nat) from hq) (by simp), h.caps, h.free, h.out, h.line, h.dead, h.kind⟩).mono fun en w' ⟨a1, h1, h2, h3, _⟩ => ⟨a1, h1, h2, h3⟩
end Go.Proofs.Ythjanhfjehccoaa
