/-
  What Close of switchboardref24 computes. Conditions: rows of at most 200.
-/
import Derived.Test.YthjanhfjehccoaaIdealBookPart1
namespace Go.Proofs.Ythjanhfjehccoaa
set_option linter.unusedVariables false
set_option linter.unusedSimpArgs false
open Go.RowKit

theorem lsOk_nil (w : World) (base k : Nat) (A : Option Addr) : LsOk w base k A 0 [] := .inl (Sl.nil_ w base k A)
set_option maxRecDepth 100000 in
set_option maxHeartbeats 16000000 in
theorem close24_any (b : Bok) (a : BokA) (c : Int) (w : World) (base : Nat) (hb : base ≤ w.heap.size) (hB : BkOk w base b a) (hr : b.refs = b.wait.length) (hw : b.wait.length ≤ 200) (hi : b.idle.length ≤ 200) (hl : b.leased.length ≤ 200) :
    Calls Try.prog 13 #[.agg (bkCells b a), .int .i64 c] w fun e w' => DecPost2 base (b.close c) w e w' := by
  obtain ⟨W, hW, h0⟩ := boxesD w (bkCells b a)
  have hBW := hB.below hb h0.bel
  have k16 : W.cell? ⟨w.heap.size, 16, none⟩ = some (.bool b.closed) := by rw [cell_of_row _ _ 16 _ _ _ h0.rb]; rfl
  by_cases hcl : b.closed = true
  · have HQ : Hid (b.close c = b.endsB (trn0.say c (-1) 240)) := Lib.hid (by unfold Bok.close; rw [if_pos hcl])
    rw [hcl] at k16
    have hlen : ([] : List Rpl).length ≤ 900 := Nat.zero_le _
    clear hcl
    go_enter Try.func13, Try.ntmps13
    go_upto_region 2 with fail
    change Code.wp _ _ _ _ ((((w.alloc (.cells (bkCells b a) 30)).alloc (.cells zeroBk 30)).alloc (.cells zeroTn 40)).alloc (.cells zeroTn 40))
    rw [hW]
    clear hW
    go_upto_region 3 with fail
    have h5 := h0
    have hBk5 := hBW
    have hTn5 : TnOk W w.heap.size trn0 trnA0 := tnOk0 _ _
    obtain ⟨W5, hW5⟩ : ∃ x, W = x := ⟨_, rfl⟩
    rw [hW5] at h5 hBk5 hTn5 ⊢
    clear hW5 h0 hBW k16
    have hSd := h5.drew
    have hTd := hTn5.below (w' := W5.drew) ⟨rfl, rfl, rfl, Nat.le_refl _, fun _ _ => rfl⟩
    have hBd := hBk5.below (w' := W5.drew) h5.le ⟨rfl, rfl, rfl, Nat.le_refl _, fun _ _ => rfl⟩
    obtain ⟨W6, hW6⟩ : ∃ x, W5.drew = x := ⟨_, rfl⟩
    rw [hW6] at hSd hTd hBd
    clear h5 hTn5 hBk5
    go_upto_region 3 with fail
    refine wp_region_held_drew (S := (fun wx => Dec2 (bkCells (b) (a)) (tnCells (trn0) (trnA0)) w wx)) (by kernel_rfl) ?_ (fun hHeld => ?_)
    · (try dsimp only); first | done | ((first | exact hS | (rw [hW6]; exact hSd) | skip))
    refine wpAnyH_take (i := 0) (v := (.agg (bkCells (b) (a)))) rfl (by kernel_rfl) (by kernel_rfl) (by kernel_rfl) (fun _ _ _ h => h) (Or.inl ⟨by rfl, ?_⟩) hHeld ?_
    · intro wq hSw; (try dsimp only at hSw); exact exec_loadRow 30 _ rfl w.heap.size rfl 30 _ _ _ hSw.rb Try.underlying30 rfl (by kernel_rfl)
    try simp only [Act.put, List.getElem_toArray, List.getElem_cons_succ, List.getElem_cons_zero, List.setIfInBounds_toArray, List.set_cons_zero, List.set_cons_succ]
    refine wpAnyH_take (i := 1) (v := (.agg (tnCells (trn0) (trnA0)))) rfl (by kernel_rfl) (by kernel_rfl) (by kernel_rfl) (fun _ _ _ h => h) (Or.inl ⟨by rfl, ?_⟩) hHeld ?_
    · intro wq hSw; (try dsimp only at hSw); exact exec_loadRow 40 _ rfl (w.heap.size + 3) rfl 40 _ _ _ hSw.rt Try.underlying40 rfl (by kernel_rfl)
    try simp only [Act.put, List.getElem_toArray, List.getElem_cons_succ, List.getElem_cons_zero, List.setIfInBounds_toArray, List.set_cons_zero, List.set_cons_succ]
    first
     | (refine wpAnyH_take (i := 2) (v := ?_) rfl (by kernel_rfl) (by kernel_rfl) (by kernel_rfl) (fun _ _ _ h => h) (Or.inl ⟨by rfl, ?_⟩) hHeld ?_; rotate_left; (intro wq hSw; (try dsimp only at hSw); go_simp; done))
     | (refine wpAnyH_take (i := 2) (v := ?_) rfl (by kernel_rfl) (by kernel_rfl) (by kernel_rfl) (fun _ _ _ h => h) (Or.inl ⟨by rfl, ?_⟩) hHeld ?_; rotate_left; (intro wq hSw; (try dsimp only at hSw); go_simp; with_reducible rfl))
     | refine wpAnyH_take (i := 2) (v := undef) rfl (by kernel_rfl) (by kernel_rfl) (by kernel_rfl) (fun _ _ _ h => h) (Or.inr ⟨by rfl, rfl⟩) hHeld ?_
    try simp only [Act.put, List.getElem_toArray, List.getElem_cons_succ, List.getElem_cons_zero, List.setIfInBounds_toArray, List.set_cons_zero, List.set_cons_succ]
    refine wpAnyH_ready (rs := [3]) (by kernel_rfl) (by simp) ?_
    refine AllReadyH.cons rfl (fun K hK => ?_) AllReadyH.nil
    try rw [hW6]; go_simp; go_at_call 26; refine (say24_any w.heap.size (trn0) (trnA0) c (-1) 240 _ hTd.rep hSd.le hlen).mono ?_; rintro en wx ⟨rA, rc, rfl, hoR, hgR⟩; have hRow := rpRow_of hTd.rep; have hS := hSd.grow hgR hRow; have hB1 := hBd.grow hSd.le hgR hRow; have hT1 := file_said hTd hoR hgR; try go_wp2_with fail
    refine hK.out _ _ ?_ (fun hHeld => ?_)
    · (try dsimp only); first | done | ((first | exact hS | (rw [hW6]; exact hSd) | skip))
    clear hK K
    try simp only [Act.put, List.getElem_toArray, List.getElem_cons_succ, List.getElem_cons_zero, List.setIfInBounds_toArray, List.set_cons_zero, List.set_cons_succ]
    refine wpAnyH_ready (rs := [4]) (by kernel_rfl) (by simp) ?_
    refine AllReadyH.cons rfl (fun K hK => ?_) AllReadyH.nil
    go_simp; go_at_call 25; refine (ends24_any (b) (a) ((trn0).say c (-1) 240) ({ trnA0 with rA := rA, rc := rc }) _).mono ?_; rintro en wz ⟨rfl, hbN⟩; have hS := hHeld.below hbN; have hB3 := hB1.below hHeld.le hbN; have hT3 := ends_tn (b := b) (hT1.below hbN); try go_wp2_with fail
    refine hK.out _ _ ?_ (fun hHeld => ?_)
    · (try dsimp only); first | done | ((first | exact hS | (rw [hW6]; exact hSd) | skip))
    clear hK K
    try simp only [Act.put, List.getElem_toArray, List.getElem_cons_succ, List.getElem_cons_zero, List.setIfInBounds_toArray, List.set_cons_zero, List.set_cons_succ]
    first
     | (refine wpAnyH_take (i := 5) (v := ?_) rfl (by kernel_rfl) (by kernel_rfl) (by kernel_rfl) (fun _ _ _ h => h) (Or.inl ⟨by rfl, ?_⟩) hHeld ?_; rotate_left; (intro wq hSw; (try dsimp only at hSw); go_simp; done))
     | (refine wpAnyH_take (i := 5) (v := ?_) rfl (by kernel_rfl) (by kernel_rfl) (by kernel_rfl) (fun _ _ _ h => h) (Or.inl ⟨by rfl, ?_⟩) hHeld ?_; rotate_left; (intro wq hSw; (try dsimp only at hSw); go_simp; with_reducible rfl))
     | refine wpAnyH_take (i := 5) (v := undef) rfl (by kernel_rfl) (by kernel_rfl) (by kernel_rfl) (fun _ _ _ h => h) (Or.inr ⟨by rfl, rfl⟩) hHeld ?_
    try simp only [Act.put, List.getElem_toArray, List.getElem_cons_succ, List.getElem_cons_zero, List.setIfInBounds_toArray, List.set_cons_zero, List.set_cons_succ]
    first
     | (refine wpAnyH_take (i := 6) (v := ?_) rfl (by kernel_rfl) (by kernel_rfl) (by kernel_rfl) (fun _ _ _ h => h) (Or.inl ⟨by rfl, ?_⟩) hHeld ?_; rotate_left; (intro wq hSw; (try dsimp only at hSw); go_simp; done))
     | (refine wpAnyH_take (i := 6) (v := ?_) rfl (by kernel_rfl) (by kernel_rfl) (by kernel_rfl) (fun _ _ _ h => h) (Or.inl ⟨by rfl, ?_⟩) hHeld ?_; rotate_left; (intro wq hSw; (try dsimp only at hSw); go_simp; with_reducible rfl))
     | refine wpAnyH_take (i := 6) (v := undef) rfl (by kernel_rfl) (by kernel_rfl) (by kernel_rfl) (fun _ _ _ h => h) (Or.inr ⟨by rfl, rfl⟩) hHeld ?_
    try simp only [Act.put, List.getElem_toArray, List.getElem_cons_succ, List.getElem_cons_zero, List.setIfInBounds_toArray, List.set_cons_zero, List.set_cons_succ]
    refine wpAnyH_ready (rs := [7]) (by kernel_rfl) (by simp) ?_
    refine AllReadyH.cons rfl (fun K hK => ?_) AllReadyH.nil
    obtain ⟨z, hz, hzs⟩ := hHeld.z1; refine step_storeRow (by rfl) 30 _ _ rfl (w.heap.size + 1) (bkCells ((b).endsB ((trn0).say c (-1) 240)).1 (a)) rfl rfl 30 _ hz (by kernel_rfl) hzs (by kernel_rfl) ?_; obtain ⟨hS, hr1⟩ := hHeld.row1 (bkCells ((b).endsB ((trn0).say c (-1) 240)).1 (a)) rfl; have sd7 := hHeld.side1 (bkCells ((b).endsB ((trn0).say c (-1) 240)).1 (a))
    refine hK.out _ _ ?_ (fun hHeld => ?_)
    · (try dsimp only); first | done | ((first | exact hS | (rw [hW6]; exact hSd) | skip))
    clear hK K
    try simp only [Act.put, List.getElem_toArray, List.getElem_cons_succ, List.getElem_cons_zero, List.setIfInBounds_toArray, List.set_cons_zero, List.set_cons_succ]
    refine wpAnyH_ready (rs := [8]) (by kernel_rfl) (by simp) ?_
    refine AllReadyH.cons rfl (fun K hK => ?_) AllReadyH.nil
    obtain ⟨z, hz, hzs⟩ := hHeld.z2; refine step_storeRow (by rfl) 40 _ _ rfl (w.heap.size + 2) (tnCells ((b).endsB ((trn0).say c (-1) 240)).2 ({ trnA0 with rA := rA, rc := rc })) rfl rfl 40 _ hz (by kernel_rfl) hzs (by kernel_rfl) ?_; obtain ⟨hS, hr2⟩ := hHeld.row2 (tnCells ((b).endsB ((trn0).say c (-1) 240)).2 ({ trnA0 with rA := rA, rc := rc })) rfl; have sd8 := hHeld.side2 (tnCells ((b).endsB ((trn0).say c (-1) 240)).2 ({ trnA0 with rA := rA, rc := rc }))
    refine hK.out _ _ ?_ (fun hHeld => ?_)
    · (try dsimp only); first | done | ((first | exact hS | (rw [hW6]; exact hSd) | skip))
    clear hK K
    try simp only [Act.put, List.getElem_toArray, List.getElem_cons_succ, List.getElem_cons_zero, List.setIfInBounds_toArray, List.set_cons_zero, List.set_cons_succ]
    refine wpAnyH_done (by kernel_rfl) ?_ _
    skip
    go_wp2_with fail
    refine bodyPost_ret (results_cell_cell Try.results13 _ _ (w.heap.size + 1) (w.heap.size + 2) _ _ (bkCells ((b).endsB ((trn0).say c (-1) 240)).1 (a)) (tnCells ((b).endsB ((trn0).say c (-1) 240)).2 ({ trnA0 with rA := rA, rc := rc })) _ _ _ _ rfl ((setRow_other _ _ _ _ (by omega)).trans hr1) Try.underlying30 rfl (by kernel_rfl) rfl hr2 Try.underlying40 rfl (by kernel_rfl)) rfl ?_
    rw [HQ.out]
    exact ⟨a, _, rfl, (hB3.side sd7).side sd8, ⟨_, hb, (hT3.side sd7).side sd8⟩, hHeld.bel⟩
  · have hc2 : b.closed = false := by simpa using hcl
    have HQ : Hid (b.close c = ({ (b.fail trn0 240).1 with idle := [], leased := [], closed := true } : Bok).endsB (({ (b.fail trn0 240).2 with shut := (b.fail trn0 240).1.idle.map (·.1) ++ (b.fail trn0 240).1.leased } : Trn).say c (-1) 0)) := Lib.hid (by unfold Bok.close; rw [if_neg hcl])
    have hfi : (b.fail trn0 240).1.idle = b.idle := rfl
    have hfl : (b.fail trn0 240).1.leased = b.leased := rfl
    have hfw : (b.fail trn0 240).1.wait = [] := rfl
    have hfr : (b.fail trn0 240).2.rep.length = b.wait.length := by simp [Bok.fail, Bok.part, trn0]
    have hfs : (b.fail trn0 240).2.shut = [] := rfl
    rw [hc2] at k16
    have hcall := fail24_any base b a 240 W (Nat.le_trans hb h0.le) hBW hr (by omega)
    unfold FailPost at hcall
    have hE : HQ = HQ := rfl
    generalize hq : b.fail trn0 240 = q at hfi hfl hfw hfr hfs hcall HQ
    obtain ⟨q1, q2⟩ := q
    simp only at hfi hfl hfw hfr hfs hcall HQ
    clear hcl hc2 hq hE
    obtain ⟨a1, ha1⟩ : ∃ x : BokA, { a with wA := none, wc := 0 } = x := ⟨_, rfl⟩
    rw [ha1] at hcall
    have r0 := h0.rb
    have r3 := h0.rt
    go_enter Try.func13, Try.ntmps13
    go_upto_region 2 with fail
    change Code.wp _ _ _ _ ((((w.alloc (.cells (bkCells b a) 30)).alloc (.cells zeroBk 30)).alloc (.cells zeroTn 40)).alloc (.cells zeroTn 40))
    rw [hW]
    clear hW
    go_wp2_with (first | (refine wpList_load_row rfl 30 _ rfl w.heap.size rfl 30 _ _ _ r0 Try.underlying30 rfl (by kernel_rfl) ?_) | (refine wpList_load_row rfl 40 _ rfl (w.heap.size + 3) rfl 40 _ _ _ r3 Try.underlying40 rfl (by kernel_rfl) ?_))
    refine hcall.mono ?_
    rintro e W2 ⟨rA, rc, rfl, hT2, hb2⟩
    have h2 := h0.below hb2
    have hB2 := hBW.below h0.le hb2
    have hT2' : TnOk W2 w.heap.size q2 ⟨rA, rc, none, 0⟩ := ⟨⟨hT2.rep.1, Ow.rebase hT2.rep.2 h0.le⟩, Ow.rebase hT2.shut h0.le⟩
    have hBq : BkOk W2 base q1 a1 := by
      rw [← ha1]
      exact ⟨by rw [hfi]; exact hB2.idle, by rw [hfl]; exact hB2.leased, by rw [hfw]; exact lsOk_nil _ _ _ _, by rw [hfi]; exact hB2.ic, by rw [hfl]; exact hB2.lc, by rw [hfw]; exact Nat.zero_le _⟩
    have g0 := h2.rb
    have sd1 := h2.sideBr (bkCells q1 a1)
    have h3 := h2.rowB (bkCells q1 a1)
    have g3 := h3.rt
    have sd2 := h3.sideTr (tnCells q2 ⟨rA, rc, none, 0⟩)
    have h4 := h3.rowT (tnCells q2 ⟨rA, rc, none, 0⟩)
    have hB4 := (hBq.side sd1).side sd2
    have hT4 := (hT2'.side sd1).side sd2
    clear r0 r3 hcall hB2 hT2 hT2' hBq hb2 hBW k16
    go_upto_region 5 with (first | (refine wpList_store_row rfl 30 _ _ rfl w.heap.size (bkCells q1 a1) rfl rfl 30 _ g0 (by kernel_rfl) rfl (by kernel_rfl) ?_) | (refine wpList_store_row rfl 40 _ _ rfl (w.heap.size + 3) (tnCells q2 ⟨rA, rc, none, 0⟩) rfl rfl 40 _ g3 (by kernel_rfl) rfl (by kernel_rfl) ?_))
    change Code.wp _ _ _ _ ((W2.setRow w.heap.size (bkCells q1 a1)).setRow (w.heap.size + 3) (tnCells q2 ⟨rA, rc, none, 0⟩))
    obtain ⟨W4, hW4⟩ : ∃ x, (W2.setRow w.heap.size (bkCells q1 a1)).setRow (w.heap.size + 3) (tnCells q2 ⟨rA, rc, none, 0⟩) = x := ⟨_, rfl⟩
    rw [hW4] at h4 hB4 hT4 ⊢
    clear hW4 sd1 sd2 h3 g0 g3 h2 h0
    have r4 := h4.rb
    go_wp2_with (first | (refine wpList_load_row rfl 30 _ rfl w.heap.size rfl 30 _ _ _ r4 Try.underlying30 rfl (by kernel_rfl) ?_))
    refine (owns24_any base q1 a1 W4 (Nat.le_trans hb h4.le) hB4 (by rw [hfi]; exact hi) (by rw [hfl]; exact hl)).mono ?_
    rintro e W5 ⟨A5, c5, rfl, ho5, hb5⟩
    have h5 := h4.below hb5
    have hB5 := hB4.below h4.le hb5
    have hT5 := hT4.below hb5
    obtain ⟨m, hm⟩ : ∃ m, q1.idle.length + q1.leased.length = m := ⟨_, rfl⟩
    rw [hm] at ho5 ⊢
    have hom := ho5.len
    have j1 : W5.cell? ⟨w.heap.size + 3, 1, none⟩ = some (.slice none q2.shut.length 0) := by rw [cell_of_row _ _ 1 _ _ _ h5.rt]; rfl
    have f1 := rw_free h5.rt 1
    have sdA := h5.sideT 1 (.slice A5 m c5)
    have h6 := h5.setT 1 (.slice A5 m c5)
    have ho6 := ow_side (Ow.rebase ho5 h4.le) (.inl rfl) sdA
    have hr6 := (hT5.side sdA).rep
    have hB6 := hB5.side sdA
    obtain ⟨t1, ht1⟩ : ∃ x : Trn, x = { q2 with shut := q1.idle.map (·.1) ++ q1.leased } := ⟨_, rfl⟩
    obtain ⟨u1, hu1⟩ : ∃ x : TrnA, x = ⟨rA, rc, A5, c5⟩ := ⟨_, rfl⟩
    have eT : (tnCells q2 ⟨rA, rc, none, 0⟩).setIfInBounds 1 (.slice A5 m c5) = tnCells t1 u1 := by rw [ht1, hu1, ← hom]; unfold tnCells; simp
    rw [eT] at h6
    go_upto_region 6 with fail
    obtain ⟨V6, hV6⟩ : ∃ x, W5.setCell ⟨w.heap.size + 3, 1, none⟩ (.slice A5 m c5) = x := ⟨_, rfl⟩
    rw [hV6] at h6 ho6 hr6 hB6 ⊢
    have hTn6 : TnOk V6 w.heap.size t1 u1 := by rw [ht1, hu1]; exact ⟨hr6, by rw [← hom] at ho6; exact ho6⟩
    clear hV6 eT sdA h5 j1 f1 hB5 hT5 ho5 hb5 r4 hT4 hB4 h4 ho6 hr6 hom hm
    have m9 : V6.cell? ⟨w.heap.size, 9, none⟩ = some (.slice a1.iA q1.idle.length a1.ic) := by rw [cell_of_row _ _ 9 _ _ _ h6.rb]; rfl
    have m10 : V6.cell? ⟨w.heap.size, 10, none⟩ = some (.slice a1.lA q1.leased.length a1.lc) := by rw [cell_of_row _ _ 10 _ _ _ h6.rb]; rfl
    have m16 : V6.cell? ⟨w.heap.size, 16, none⟩ = some (.bool q1.closed) := by rw [cell_of_row _ _ 16 _ _ _ h6.rb]; rfl
    have n9 := rw_free h6.rb 9
    have n10 := rw_free h6.rb 10
    have n16 := rw_free h6.rb 16
    have sB1 := h6.sideB 9 (.slice none 0 0)
    have h7 := h6.setB 9 (.slice none 0 0)
    have sB2 := h7.sideB 10 (.slice none 0 0)
    have h8 := h7.setB 10 (.slice none 0 0)
    have sB3 := h8.sideB 16 (.bool true)
    have h9 := h8.setB 16 (.bool true)
    have hB9 := ((hB6.side sB1).side sB2).side sB3
    have hT9 := ((hTn6.side sB1).side sB2).side sB3
    obtain ⟨b1, hb1⟩ : ∃ x : Bok, x = { q1 with idle := [], leased := [], closed := true } := ⟨_, rfl⟩
    obtain ⟨a2, ha2⟩ : ∃ x : BokA, x = { a1 with iA := none, ic := 0, lA := none, lc := 0 } := ⟨_, rfl⟩
    have eB : (((bkCells q1 a1).setIfInBounds 9 (.slice none 0 0)).setIfInBounds 10 (.slice none 0 0)).setIfInBounds 16 (.bool true) = bkCells b1 a2 := by rw [hb1, ha2]; unfold bkCells; simp
    rw [eB] at h9
    go_upto_region 9 with fail
    obtain ⟨W5, hW5⟩ : ∃ x, ((V6.setCell ⟨w.heap.size, 9, none⟩ (.slice none 0 0)).setCell ⟨w.heap.size, 10, none⟩ (.slice none 0 0)).setCell ⟨w.heap.size, 16, none⟩ (.bool true) = x := ⟨_, rfl⟩
    rw [hW5] at h9 hB9 hT9 ⊢
    have h5 := h9
    have hTn5 := hT9
    have hBk5 : BkOk W5 base b1 a2 := by rw [hb1, ha2]; exact ⟨lsOk_nil _ _ _ _, lsOk_nil _ _ _ _, hB9.wait, Nat.zero_le _, Nat.zero_le _, hB9.wc⟩
    have hlen : t1.rep.length ≤ 900 := by rw [ht1]; show q2.rep.length ≤ 900; omega
    rw [← hb1, ← ht1] at HQ
    have HQQ := Lib.hid HQ.out
    clear HQ hW5 h9 hB9 hT9 eB hb1 ht1 hu1 ha2 ha1 h8 h7 h6 hB6 hTn6 sB1 sB2 sB3 m9 m10 m16 n9 n10 n16 hfi hfl hfw hfr hfs
    have hSd := h5.drew
    have hTd := hTn5.below (w' := W5.drew) ⟨rfl, rfl, rfl, Nat.le_refl _, fun _ _ => rfl⟩
    have hBd := hBk5.below (w' := W5.drew) h5.le ⟨rfl, rfl, rfl, Nat.le_refl _, fun _ _ => rfl⟩
    obtain ⟨W6, hW6⟩ : ∃ x, W5.drew = x := ⟨_, rfl⟩
    rw [hW6] at hSd hTd hBd
    clear h5 hTn5 hBk5
    go_upto_region 9 with fail
    refine wp_region_held_drew (S := (fun wx => Dec2 (bkCells (b1) (a2)) (tnCells (t1) (u1)) w wx)) (by kernel_rfl) ?_ (fun hHeld => ?_)
    · (try dsimp only); first | done | ((first | exact hS | (rw [hW6]; exact hSd) | skip))
    refine wpAnyH_take (i := 0) (v := (.agg (bkCells (b1) (a2)))) rfl (by kernel_rfl) (by kernel_rfl) (by kernel_rfl) (fun _ _ _ h => h) (Or.inl ⟨by rfl, ?_⟩) hHeld ?_
    · intro wq hSw; (try dsimp only at hSw); exact exec_loadRow 30 _ rfl w.heap.size rfl 30 _ _ _ hSw.rb Try.underlying30 rfl (by kernel_rfl)
    try simp only [Act.put, List.getElem_toArray, List.getElem_cons_succ, List.getElem_cons_zero, List.setIfInBounds_toArray, List.set_cons_zero, List.set_cons_succ]
    refine wpAnyH_take (i := 1) (v := (.agg (tnCells (t1) (u1)))) rfl (by kernel_rfl) (by kernel_rfl) (by kernel_rfl) (fun _ _ _ h => h) (Or.inl ⟨by rfl, ?_⟩) hHeld ?_
    · intro wq hSw; (try dsimp only at hSw); exact exec_loadRow 40 _ rfl (w.heap.size + 3) rfl 40 _ _ _ hSw.rt Try.underlying40 rfl (by kernel_rfl)
    try simp only [Act.put, List.getElem_toArray, List.getElem_cons_succ, List.getElem_cons_zero, List.setIfInBounds_toArray, List.set_cons_zero, List.set_cons_succ]
    first
     | (refine wpAnyH_take (i := 2) (v := ?_) rfl (by kernel_rfl) (by kernel_rfl) (by kernel_rfl) (fun _ _ _ h => h) (Or.inl ⟨by rfl, ?_⟩) hHeld ?_; rotate_left; (intro wq hSw; (try dsimp only at hSw); go_simp; done))
     | (refine wpAnyH_take (i := 2) (v := ?_) rfl (by kernel_rfl) (by kernel_rfl) (by kernel_rfl) (fun _ _ _ h => h) (Or.inl ⟨by rfl, ?_⟩) hHeld ?_; rotate_left; (intro wq hSw; (try dsimp only at hSw); go_simp; with_reducible rfl))
     | refine wpAnyH_take (i := 2) (v := undef) rfl (by kernel_rfl) (by kernel_rfl) (by kernel_rfl) (fun _ _ _ h => h) (Or.inr ⟨by rfl, rfl⟩) hHeld ?_
    try simp only [Act.put, List.getElem_toArray, List.getElem_cons_succ, List.getElem_cons_zero, List.setIfInBounds_toArray, List.set_cons_zero, List.set_cons_succ]
    refine wpAnyH_ready (rs := [3]) (by kernel_rfl) (by simp) ?_
    refine AllReadyH.cons rfl (fun K hK => ?_) AllReadyH.nil
    try rw [hW6]; go_simp; go_at_call 26; refine (say24_any w.heap.size (t1) (u1) c (-1) 0 _ hTd.rep hSd.le hlen).mono ?_; rintro en wx ⟨rA, rc, rfl, hoR, hgR⟩; have hRow := rpRow_of hTd.rep; have hS := hSd.grow hgR hRow; have hB1 := hBd.grow hSd.le hgR hRow; have hT1 := file_said hTd hoR hgR; try go_wp2_with fail
    refine hK.out _ _ ?_ (fun hHeld => ?_)
    · (try dsimp only); first | done | ((first | exact hS | (rw [hW6]; exact hSd) | skip))
    clear hK K
    try simp only [Act.put, List.getElem_toArray, List.getElem_cons_succ, List.getElem_cons_zero, List.setIfInBounds_toArray, List.set_cons_zero, List.set_cons_succ]
    refine wpAnyH_ready (rs := [4]) (by kernel_rfl) (by simp) ?_
    refine AllReadyH.cons rfl (fun K hK => ?_) AllReadyH.nil
    go_simp; go_at_call 25; refine (ends24_any (b1) (a2) ((t1).say c (-1) 0) ({ u1 with rA := rA, rc := rc }) _).mono ?_; rintro en wz ⟨rfl, hbN⟩; have hS := hHeld.below hbN; have hB3 := hB1.below hHeld.le hbN; have hT3 := ends_tn (b := b1) (hT1.below hbN); try go_wp2_with fail
    refine hK.out _ _ ?_ (fun hHeld => ?_)
    · (try dsimp only); first | done | ((first | exact hS | (rw [hW6]; exact hSd) | skip))
    clear hK K
    try simp only [Act.put, List.getElem_toArray, List.getElem_cons_succ, List.getElem_cons_zero, List.setIfInBounds_toArray, List.set_cons_zero, List.set_cons_succ]
    first
     | (refine wpAnyH_take (i := 5) (v := ?_) rfl (by kernel_rfl) (by kernel_rfl) (by kernel_rfl) (fun _ _ _ h => h) (Or.inl ⟨by rfl, ?_⟩) hHeld ?_; rotate_left; (intro wq hSw; (try dsimp only at hSw); go_simp; done))
     | (refine wpAnyH_take (i := 5) (v := ?_) rfl (by kernel_rfl) (by kernel_rfl) (by kernel_rfl) (fun _ _ _ h => h) (Or.inl ⟨by rfl, ?_⟩) hHeld ?_; rotate_left; (intro wq hSw; (try dsimp only at hSw); go_simp; with_reducible rfl))
     | refine wpAnyH_take (i := 5) (v := undef) rfl (by kernel_rfl) (by kernel_rfl) (by kernel_rfl) (fun _ _ _ h => h) (Or.inr ⟨by rfl, rfl⟩) hHeld ?_
    try simp only [Act.put, List.getElem_toArray, List.getElem_cons_succ, List.getElem_cons_zero, List.setIfInBounds_toArray, List.set_cons_zero, List.set_cons_succ]
    first
     | (refine wpAnyH_take (i := 6) (v := ?_) rfl (by kernel_rfl) (by kernel_rfl) (by kernel_rfl) (fun _ _ _ h => h) (Or.inl ⟨by rfl, ?_⟩) hHeld ?_; rotate_left; (intro wq hSw; (try dsimp only at hSw); go_simp; done))
     | (refine wpAnyH_take (i := 6) (v := ?_) rfl (by kernel_rfl) (by kernel_rfl) (by kernel_rfl) (fun _ _ _ h => h) (Or.inl ⟨by rfl, ?_⟩) hHeld ?_; rotate_left; (intro wq hSw; (try dsimp only at hSw); go_simp; with_reducible rfl))
     | refine wpAnyH_take (i := 6) (v := undef) rfl (by kernel_rfl) (by kernel_rfl) (by kernel_rfl) (fun _ _ _ h => h) (Or.inr ⟨by rfl, rfl⟩) hHeld ?_
    try simp only [Act.put, List.getElem_toArray, List.getElem_cons_succ, List.getElem_cons_zero, List.setIfInBounds_toArray, List.set_cons_zero, List.set_cons_succ]
    refine wpAnyH_ready (rs := [7]) (by kernel_rfl) (by simp) ?_
    refine AllReadyH.cons rfl (fun K hK => ?_) AllReadyH.nil
    obtain ⟨z, hz, hzs⟩ := hHeld.z1; refine step_storeRow (by rfl) 30 _ _ rfl (w.heap.size + 1) (bkCells ((b1).endsB ((t1).say c (-1) 0)).1 (a2)) rfl rfl 30 _ hz (by kernel_rfl) hzs (by kernel_rfl) ?_; obtain ⟨hS, hr1⟩ := hHeld.row1 (bkCells ((b1).endsB ((t1).say c (-1) 0)).1 (a2)) rfl; have sd7 := hHeld.side1 (bkCells ((b1).endsB ((t1).say c (-1) 0)).1 (a2))
    refine hK.out _ _ ?_ (fun hHeld => ?_)
    · (try dsimp only); first | done | ((first | exact hS | (rw [hW6]; exact hSd) | skip))
    clear hK K
    try simp only [Act.put, List.getElem_toArray, List.getElem_cons_succ, List.getElem_cons_zero, List.setIfInBounds_toArray, List.set_cons_zero, List.set_cons_succ]
    refine wpAnyH_ready (rs := [8]) (by kernel_rfl) (by simp) ?_
    refine AllReadyH.cons rfl (fun K hK => ?_) AllReadyH.nil
    obtain ⟨z, hz, hzs⟩ := hHeld.z2; refine step_storeRow (by rfl) 40 _ _ rfl (w.heap.size + 2) (tnCells ((b1).endsB ((t1).say c (-1) 0)).2 ({ u1 with rA := rA, rc := rc })) rfl rfl 40 _ hz (by kernel_rfl) hzs (by kernel_rfl) ?_; obtain ⟨hS, hr2⟩ := hHeld.row2 (tnCells ((b1).endsB ((t1).say c (-1) 0)).2 ({ u1 with rA := rA, rc := rc })) rfl; have sd8 := hHeld.side2 (tnCells ((b1).endsB ((t1).say c (-1) 0)).2 ({ u1 with rA := rA, rc := rc }))
    refine hK.out _ _ ?_ (fun hHeld => ?_)
    · (try dsimp only); first | done | ((first | exact hS | (rw [hW6]; exact hSd) | skip))
    clear hK K
    try simp only [Act.put, List.getElem_toArray, List.getElem_cons_succ, List.getElem_cons_zero, List.setIfInBounds_toArray, List.set_cons_zero, List.set_cons_succ]
    refine wpAnyH_done (by kernel_rfl) ?_ _
    skip
    go_wp2_with fail
    refine bodyPost_ret (results_cell_cell Try.results13 _ _ (w.heap.size + 1) (w.heap.size + 2) _ _ (bkCells ((b1).endsB ((t1).say c (-1) 0)).1 (a2)) (tnCells ((b1).endsB ((t1).say c (-1) 0)).2 ({ u1 with rA := rA, rc := rc })) _ _ _ _ rfl ((setRow_other _ _ _ _ (by omega)).trans hr1) Try.underlying30 rfl (by kernel_rfl) rfl hr2 Try.underlying40 rfl (by kernel_rfl)) rfl ?_
    rw [HQQ.out]
    exact ⟨a2, _, rfl, (hB3.side sd7).side sd8, ⟨_, hb, (hT3.side sd7).side sd8⟩, hHeld.bel⟩
end Go.Proofs.Ythjanhfjehccoaa
