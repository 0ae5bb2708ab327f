/-
  What Back of switchboardref24 computes. Conditions: rows of at most 200.
-/
import Derived.Test.YthjanhfjehccoaaIdealBookPart4
namespace Go.Proofs.Ythjanhfjehccoaa
set_option linter.unusedVariables false
set_option linter.unusedSimpArgs false
open Go.RowKit

set_option maxRecDepth 100000 in
set_option maxHeartbeats 16000000 in
theorem back24_any (b : Bok) (a : BokA) (c sock : Int) (keep : Bool) (now : Int) (dA : Option Addr) (dn dc : Nat) (dead : List Int) (w : World) (base : Nat) (hb : base ≤ w.heap.size) (hB : BkOk w base b a) (hd : Ints w w.heap.size dA dn dead) (hr : b.refs = b.wait.length) (hw : b.wait.length ≤ 200) (hi : b.idle.length ≤ 200) (hl : b.leased.length ≤ 200) (hdn : dn ≤ 200) :
    Calls Try.prog 9 #[.agg (bkCells b a), .int .i64 c, .int .i64 sock, .bool keep, .int .i64 now, .slice dA dn dc] w fun e w' => DecPost2 base (b.back c sock keep now dead) w e w' := by
  obtain ⟨W, hW, h0⟩ := boxesD w (bkCells b a)
  have hBW := hB.below hb h0.bel
  have HR := Lib.hid hr
  clear hr
  have k10 : W.cell? ⟨w.heap.size, 10, none⟩ = some (.slice a.lA b.leased.length a.lc) := by rw [cell_of_row _ _ 10 _ _ _ h0.rb]; rfl
  have k16 : W.cell? ⟨w.heap.size, 16, none⟩ = some (.bool b.closed) := by rw [cell_of_row _ _ 16 _ _ _ h0.rb]; rfl
  have hlea := hBW.lea h0.le
  have hpl := rPlace24_any a.lA b.leased.length a.lc W.heap.size b.leased sock W hlea (by omega)
  have hlen : ([] : List Rpl).length ≤ 900 := Nat.zero_le _
  obtain ⟨kk, hkk⟩ : ∃ x, placeOf b.leased sock = x := ⟨_, rfl⟩
  rw [hkk] at hpl
  by_cases hcl : b.closed = true
  · have HQ : Hid (b.back c sock keep now dead = b.endsB (trn0.say c (-1) 240)) := Lib.hid (by unfold Bok.back; rw [if_pos hcl])
    rw [hcl] at k16
    clear hcl hkk hlea
    go_enter Try.func9, Try.ntmps9
    go_upto_region 2 with fail
    change Code.wp _ _ _ _ ((((w.alloc (.cells (bkCells b a) 30)).alloc (.cells zeroBk 30)).alloc (.cells zeroTn 40)).alloc (.cells zeroTn 40))
    rw [hW]
    clear hW
    go_wp2_with fail
    refine hpl.mono ?_
    rintro e Wx ⟨rfl, rfl⟩
    go_upto_region 4 with fail
    clear k10 k16 hpl
    have h5 := h0
    have hBk5 := hBW
    have hTn5 : TnOk W w.heap.size trn0 trnA0 := tnOk0 _ _
    obtain ⟨W5, hW5⟩ : ∃ x, W = x := ⟨_, rfl⟩
    rw [hW5] at h5 hBk5 hTn5 ⊢
    clear hW5 h0 hBW
    have hSd := h5.drew
    have hTd := hTn5.below (w' := W5.drew) ⟨rfl, rfl, rfl, Nat.le_refl _, fun _ _ => rfl⟩
    have hBd := hBk5.below (w' := W5.drew) h5.le ⟨rfl, rfl, rfl, Nat.le_refl _, fun _ _ => rfl⟩
    obtain ⟨W6, hW6⟩ : ∃ x, W5.drew = x := ⟨_, rfl⟩
    rw [hW6] at hSd hTd hBd
    clear h5 hTn5 hBk5
    go_upto_region 4 with fail
    refine wp_region_held_drew (S := (fun wx => Dec2 (bkCells (b) (a)) (tnCells (trn0) (trnA0)) w wx)) (by kernel_rfl) ?_ (fun hHeld => ?_)
    · (try dsimp only); first | done | ((first | exact hS | (rw [hW6]; exact hSd) | skip))
    refine wpAnyH_take (i := 0) (v := (.agg (bkCells (b) (a)))) rfl (by kernel_rfl) (by kernel_rfl) (by kernel_rfl) (fun _ _ _ h => h) (Or.inl ⟨by rfl, ?_⟩) hHeld ?_
    · intro wq hSw; (try dsimp only at hSw); exact exec_loadRow 30 _ rfl w.heap.size rfl 30 _ _ _ hSw.rb Try.underlying30 rfl (by kernel_rfl)
    try simp only [Act.put, List.getElem_toArray, List.getElem_cons_succ, List.getElem_cons_zero, List.setIfInBounds_toArray, List.set_cons_zero, List.set_cons_succ]
    refine wpAnyH_take (i := 1) (v := (.agg (tnCells (trn0) (trnA0)))) rfl (by kernel_rfl) (by kernel_rfl) (by kernel_rfl) (fun _ _ _ h => h) (Or.inl ⟨by rfl, ?_⟩) hHeld ?_
    · intro wq hSw; (try dsimp only at hSw); exact exec_loadRow 40 _ rfl (w.heap.size + 3) rfl 40 _ _ _ hSw.rt Try.underlying40 rfl (by kernel_rfl)
    try simp only [Act.put, List.getElem_toArray, List.getElem_cons_succ, List.getElem_cons_zero, List.setIfInBounds_toArray, List.set_cons_zero, List.set_cons_succ]
    first
     | (refine wpAnyH_take (i := 2) (v := ?_) rfl (by kernel_rfl) (by kernel_rfl) (by kernel_rfl) (fun _ _ _ h => h) (Or.inl ⟨by rfl, ?_⟩) hHeld ?_; rotate_left; (intro wq hSw; (try dsimp only at hSw); go_simp; done))
     | (refine wpAnyH_take (i := 2) (v := ?_) rfl (by kernel_rfl) (by kernel_rfl) (by kernel_rfl) (fun _ _ _ h => h) (Or.inl ⟨by rfl, ?_⟩) hHeld ?_; rotate_left; (intro wq hSw; (try dsimp only at hSw); go_simp; with_reducible rfl))
     | refine wpAnyH_take (i := 2) (v := undef) rfl (by kernel_rfl) (by kernel_rfl) (by kernel_rfl) (fun _ _ _ h => h) (Or.inr ⟨by rfl, rfl⟩) hHeld ?_
    try simp only [Act.put, List.getElem_toArray, List.getElem_cons_succ, List.getElem_cons_zero, List.setIfInBounds_toArray, List.set_cons_zero, List.set_cons_succ]
    refine wpAnyH_ready (rs := [3]) (by kernel_rfl) (by simp) ?_
    refine AllReadyH.cons rfl (fun K hK => ?_) AllReadyH.nil
    try rw [hW6]; go_simp; go_at_call 26; refine (say24_any w.heap.size (trn0) (trnA0) c (-1) 240 _ hTd.rep hSd.le hlen).mono ?_; rintro en wx ⟨rA, rc, rfl, hoR, hgR⟩; have hRow := rpRow_of hTd.rep; have hS := hSd.grow hgR hRow; have hB1 := hBd.grow hSd.le hgR hRow; have hT1 := file_said hTd hoR hgR; try go_wp2_with fail
    refine hK.out _ _ ?_ (fun hHeld => ?_)
    · (try dsimp only); first | done | ((first | exact hS | (rw [hW6]; exact hSd) | skip))
    clear hK K
    try simp only [Act.put, List.getElem_toArray, List.getElem_cons_succ, List.getElem_cons_zero, List.setIfInBounds_toArray, List.set_cons_zero, List.set_cons_succ]
    refine wpAnyH_ready (rs := [4]) (by kernel_rfl) (by simp) ?_
    refine AllReadyH.cons rfl (fun K hK => ?_) AllReadyH.nil
    go_simp; go_at_call 25; refine (ends24_any (b) (a) ((trn0).say c (-1) 240) ({ trnA0 with rA := rA, rc := rc }) _).mono ?_; rintro en wz ⟨rfl, hbN⟩; have hS := hHeld.below hbN; have hB3 := hB1.below hHeld.le hbN; have hT3 := ends_tn (b := b) (hT1.below hbN); try go_wp2_with fail
    refine hK.out _ _ ?_ (fun hHeld => ?_)
    · (try dsimp only); first | done | ((first | exact hS | (rw [hW6]; exact hSd) | skip))
    clear hK K
    try simp only [Act.put, List.getElem_toArray, List.getElem_cons_succ, List.getElem_cons_zero, List.setIfInBounds_toArray, List.set_cons_zero, List.set_cons_succ]
    first
     | (refine wpAnyH_take (i := 5) (v := ?_) rfl (by kernel_rfl) (by kernel_rfl) (by kernel_rfl) (fun _ _ _ h => h) (Or.inl ⟨by rfl, ?_⟩) hHeld ?_; rotate_left; (intro wq hSw; (try dsimp only at hSw); go_simp; done))
     | (refine wpAnyH_take (i := 5) (v := ?_) rfl (by kernel_rfl) (by kernel_rfl) (by kernel_rfl) (fun _ _ _ h => h) (Or.inl ⟨by rfl, ?_⟩) hHeld ?_; rotate_left; (intro wq hSw; (try dsimp only at hSw); go_simp; with_reducible rfl))
     | refine wpAnyH_take (i := 5) (v := undef) rfl (by kernel_rfl) (by kernel_rfl) (by kernel_rfl) (fun _ _ _ h => h) (Or.inr ⟨by rfl, rfl⟩) hHeld ?_
    try simp only [Act.put, List.getElem_toArray, List.getElem_cons_succ, List.getElem_cons_zero, List.setIfInBounds_toArray, List.set_cons_zero, List.set_cons_succ]
    first
     | (refine wpAnyH_take (i := 6) (v := ?_) rfl (by kernel_rfl) (by kernel_rfl) (by kernel_rfl) (fun _ _ _ h => h) (Or.inl ⟨by rfl, ?_⟩) hHeld ?_; rotate_left; (intro wq hSw; (try dsimp only at hSw); go_simp; done))
     | (refine wpAnyH_take (i := 6) (v := ?_) rfl (by kernel_rfl) (by kernel_rfl) (by kernel_rfl) (fun _ _ _ h => h) (Or.inl ⟨by rfl, ?_⟩) hHeld ?_; rotate_left; (intro wq hSw; (try dsimp only at hSw); go_simp; with_reducible rfl))
     | refine wpAnyH_take (i := 6) (v := undef) rfl (by kernel_rfl) (by kernel_rfl) (by kernel_rfl) (fun _ _ _ h => h) (Or.inr ⟨by rfl, rfl⟩) hHeld ?_
    try simp only [Act.put, List.getElem_toArray, List.getElem_cons_succ, List.getElem_cons_zero, List.setIfInBounds_toArray, List.set_cons_zero, List.set_cons_succ]
    refine wpAnyH_ready (rs := [7]) (by kernel_rfl) (by simp) ?_
    refine AllReadyH.cons rfl (fun K hK => ?_) AllReadyH.nil
    obtain ⟨z, hz, hzs⟩ := hHeld.z1; refine step_storeRow (by rfl) 30 _ _ rfl (w.heap.size + 1) (bkCells ((b).endsB ((trn0).say c (-1) 240)).1 (a)) rfl rfl 30 _ hz (by kernel_rfl) hzs (by kernel_rfl) ?_; obtain ⟨hS, hr1⟩ := hHeld.row1 (bkCells ((b).endsB ((trn0).say c (-1) 240)).1 (a)) rfl; have sd7 := hHeld.side1 (bkCells ((b).endsB ((trn0).say c (-1) 240)).1 (a))
    refine hK.out _ _ ?_ (fun hHeld => ?_)
    · (try dsimp only); first | done | ((first | exact hS | (rw [hW6]; exact hSd) | skip))
    clear hK K
    try simp only [Act.put, List.getElem_toArray, List.getElem_cons_succ, List.getElem_cons_zero, List.setIfInBounds_toArray, List.set_cons_zero, List.set_cons_succ]
    refine wpAnyH_ready (rs := [8]) (by kernel_rfl) (by simp) ?_
    refine AllReadyH.cons rfl (fun K hK => ?_) AllReadyH.nil
    obtain ⟨z, hz, hzs⟩ := hHeld.z2; refine step_storeRow (by rfl) 40 _ _ rfl (w.heap.size + 2) (tnCells ((b).endsB ((trn0).say c (-1) 240)).2 ({ trnA0 with rA := rA, rc := rc })) rfl rfl 40 _ hz (by kernel_rfl) hzs (by kernel_rfl) ?_; obtain ⟨hS, hr2⟩ := hHeld.row2 (tnCells ((b).endsB ((trn0).say c (-1) 240)).2 ({ trnA0 with rA := rA, rc := rc })) rfl; have sd8 := hHeld.side2 (tnCells ((b).endsB ((trn0).say c (-1) 240)).2 ({ trnA0 with rA := rA, rc := rc }))
    refine hK.out _ _ ?_ (fun hHeld => ?_)
    · (try dsimp only); first | done | ((first | exact hS | (rw [hW6]; exact hSd) | skip))
    clear hK K
    try simp only [Act.put, List.getElem_toArray, List.getElem_cons_succ, List.getElem_cons_zero, List.setIfInBounds_toArray, List.set_cons_zero, List.set_cons_succ]
    refine wpAnyH_done (by kernel_rfl) ?_ _
    skip
    go_wp2_with fail
    refine bodyPost_ret (results_cell_cell Try.results9 _ _ (w.heap.size + 1) (w.heap.size + 2) _ _ (bkCells ((b).endsB ((trn0).say c (-1) 240)).1 (a)) (tnCells ((b).endsB ((trn0).say c (-1) 240)).2 ({ trnA0 with rA := rA, rc := rc })) _ _ _ _ rfl ((setRow_other _ _ _ _ (by omega)).trans hr1) Try.underlying30 rfl (by kernel_rfl) rfl hr2 Try.underlying40 rfl (by kernel_rfl)) rfl ?_
    rw [HQ.out]
    exact ⟨a, _, rfl, (hB3.side sd7).side sd8, ⟨_, hb, (hT3.side sd7).side sd8⟩, hHeld.bel⟩
  have hc2 : b.closed = false := by simpa using hcl
  rw [hc2] at k16
  by_cases hs : sock ∈ b.leased
  case neg =>
    have HQ : Hid (b.back c sock keep now dead = b.endsB (trn0.say c (-1) 80)) := Lib.hid (by unfold Bok.back; rw [if_neg hcl, if_neg hs])
    have hk := placeOf_miss hs
    rw [hkk] at hk
    subst hk
    clear hcl hc2 hs hkk hlea
    go_enter Try.func9, Try.ntmps9
    go_upto_region 2 with fail
    change Code.wp _ _ _ _ ((((w.alloc (.cells (bkCells b a) 30)).alloc (.cells zeroBk 30)).alloc (.cells zeroTn 40)).alloc (.cells zeroTn 40))
    rw [hW]
    clear hW
    go_wp2_with fail
    refine hpl.mono ?_
    rintro e Wx ⟨rfl, rfl⟩
    go_upto_region 6 with fail
    clear k10 k16 hpl
    have h5 := h0
    have hBk5 := hBW
    have hTn5 : TnOk W w.heap.size trn0 trnA0 := tnOk0 _ _
    obtain ⟨W5, hW5⟩ : ∃ x, W = x := ⟨_, rfl⟩
    rw [hW5] at h5 hBk5 hTn5 ⊢
    clear hW5 h0 hBW
    have hSd := h5.drew
    have hTd := hTn5.below (w' := W5.drew) ⟨rfl, rfl, rfl, Nat.le_refl _, fun _ _ => rfl⟩
    have hBd := hBk5.below (w' := W5.drew) h5.le ⟨rfl, rfl, rfl, Nat.le_refl _, fun _ _ => rfl⟩
    obtain ⟨W6, hW6⟩ : ∃ x, W5.drew = x := ⟨_, rfl⟩
    rw [hW6] at hSd hTd hBd
    clear h5 hTn5 hBk5
    go_upto_region 6 with fail
    refine wp_region_held_drew (S := (fun wx => Dec2 (bkCells (b) (a)) (tnCells (trn0) (trnA0)) w wx)) (by kernel_rfl) ?_ (fun hHeld => ?_)
    · (try dsimp only); first | done | ((first | exact hS | (rw [hW6]; exact hSd) | skip))
    refine wpAnyH_take (i := 0) (v := (.agg (bkCells (b) (a)))) rfl (by kernel_rfl) (by kernel_rfl) (by kernel_rfl) (fun _ _ _ h => h) (Or.inl ⟨by rfl, ?_⟩) hHeld ?_
    · intro wq hSw; (try dsimp only at hSw); exact exec_loadRow 30 _ rfl w.heap.size rfl 30 _ _ _ hSw.rb Try.underlying30 rfl (by kernel_rfl)
    try simp only [Act.put, List.getElem_toArray, List.getElem_cons_succ, List.getElem_cons_zero, List.setIfInBounds_toArray, List.set_cons_zero, List.set_cons_succ]
    refine wpAnyH_take (i := 1) (v := (.agg (tnCells (trn0) (trnA0)))) rfl (by kernel_rfl) (by kernel_rfl) (by kernel_rfl) (fun _ _ _ h => h) (Or.inl ⟨by rfl, ?_⟩) hHeld ?_
    · intro wq hSw; (try dsimp only at hSw); exact exec_loadRow 40 _ rfl (w.heap.size + 3) rfl 40 _ _ _ hSw.rt Try.underlying40 rfl (by kernel_rfl)
    try simp only [Act.put, List.getElem_toArray, List.getElem_cons_succ, List.getElem_cons_zero, List.setIfInBounds_toArray, List.set_cons_zero, List.set_cons_succ]
    first
     | (refine wpAnyH_take (i := 2) (v := ?_) rfl (by kernel_rfl) (by kernel_rfl) (by kernel_rfl) (fun _ _ _ h => h) (Or.inl ⟨by rfl, ?_⟩) hHeld ?_; rotate_left; (intro wq hSw; (try dsimp only at hSw); go_simp; done))
     | (refine wpAnyH_take (i := 2) (v := ?_) rfl (by kernel_rfl) (by kernel_rfl) (by kernel_rfl) (fun _ _ _ h => h) (Or.inl ⟨by rfl, ?_⟩) hHeld ?_; rotate_left; (intro wq hSw; (try dsimp only at hSw); go_simp; with_reducible rfl))
     | refine wpAnyH_take (i := 2) (v := undef) rfl (by kernel_rfl) (by kernel_rfl) (by kernel_rfl) (fun _ _ _ h => h) (Or.inr ⟨by rfl, rfl⟩) hHeld ?_
    try simp only [Act.put, List.getElem_toArray, List.getElem_cons_succ, List.getElem_cons_zero, List.setIfInBounds_toArray, List.set_cons_zero, List.set_cons_succ]
    refine wpAnyH_ready (rs := [3]) (by kernel_rfl) (by simp) ?_
    refine AllReadyH.cons rfl (fun K hK => ?_) AllReadyH.nil
    try rw [hW6]; go_simp; go_at_call 26; refine (say24_any w.heap.size (trn0) (trnA0) c (-1) 80 _ hTd.rep hSd.le hlen).mono ?_; rintro en wx ⟨rA, rc, rfl, hoR, hgR⟩; have hRow := rpRow_of hTd.rep; have hS := hSd.grow hgR hRow; have hB1 := hBd.grow hSd.le hgR hRow; have hT1 := file_said hTd hoR hgR; try go_wp2_with fail
    refine hK.out _ _ ?_ (fun hHeld => ?_)
    · (try dsimp only); first | done | ((first | exact hS | (rw [hW6]; exact hSd) | skip))
    clear hK K
    try simp only [Act.put, List.getElem_toArray, List.getElem_cons_succ, List.getElem_cons_zero, List.setIfInBounds_toArray, List.set_cons_zero, List.set_cons_succ]
    refine wpAnyH_ready (rs := [4]) (by kernel_rfl) (by simp) ?_
    refine AllReadyH.cons rfl (fun K hK => ?_) AllReadyH.nil
    go_simp; go_at_call 25; refine (ends24_any (b) (a) ((trn0).say c (-1) 80) ({ trnA0 with rA := rA, rc := rc }) _).mono ?_; rintro en wz ⟨rfl, hbN⟩; have hS := hHeld.below hbN; have hB3 := hB1.below hHeld.le hbN; have hT3 := ends_tn (b := b) (hT1.below hbN); try go_wp2_with fail
    refine hK.out _ _ ?_ (fun hHeld => ?_)
    · (try dsimp only); first | done | ((first | exact hS | (rw [hW6]; exact hSd) | skip))
    clear hK K
    try simp only [Act.put, List.getElem_toArray, List.getElem_cons_succ, List.getElem_cons_zero, List.setIfInBounds_toArray, List.set_cons_zero, List.set_cons_succ]
    first
     | (refine wpAnyH_take (i := 5) (v := ?_) rfl (by kernel_rfl) (by kernel_rfl) (by kernel_rfl) (fun _ _ _ h => h) (Or.inl ⟨by rfl, ?_⟩) hHeld ?_; rotate_left; (intro wq hSw; (try dsimp only at hSw); go_simp; done))
     | (refine wpAnyH_take (i := 5) (v := ?_) rfl (by kernel_rfl) (by kernel_rfl) (by kernel_rfl) (fun _ _ _ h => h) (Or.inl ⟨by rfl, ?_⟩) hHeld ?_; rotate_left; (intro wq hSw; (try dsimp only at hSw); go_simp; with_reducible rfl))
     | refine wpAnyH_take (i := 5) (v := undef) rfl (by kernel_rfl) (by kernel_rfl) (by kernel_rfl) (fun _ _ _ h => h) (Or.inr ⟨by rfl, rfl⟩) hHeld ?_
    try simp only [Act.put, List.getElem_toArray, List.getElem_cons_succ, List.getElem_cons_zero, List.setIfInBounds_toArray, List.set_cons_zero, List.set_cons_succ]
    first
     | (refine wpAnyH_take (i := 6) (v := ?_) rfl (by kernel_rfl) (by kernel_rfl) (by kernel_rfl) (fun _ _ _ h => h) (Or.inl ⟨by rfl, ?_⟩) hHeld ?_; rotate_left; (intro wq hSw; (try dsimp only at hSw); go_simp; done))
     | (refine wpAnyH_take (i := 6) (v := ?_) rfl (by kernel_rfl) (by kernel_rfl) (by kernel_rfl) (fun _ _ _ h => h) (Or.inl ⟨by rfl, ?_⟩) hHeld ?_; rotate_left; (intro wq hSw; (try dsimp only at hSw); go_simp; with_reducible rfl))
     | refine wpAnyH_take (i := 6) (v := undef) rfl (by kernel_rfl) (by kernel_rfl) (by kernel_rfl) (fun _ _ _ h => h) (Or.inr ⟨by rfl, rfl⟩) hHeld ?_
    try simp only [Act.put, List.getElem_toArray, List.getElem_cons_succ, List.getElem_cons_zero, List.setIfInBounds_toArray, List.set_cons_zero, List.set_cons_succ]
    refine wpAnyH_ready (rs := [7]) (by kernel_rfl) (by simp) ?_
    refine AllReadyH.cons rfl (fun K hK => ?_) AllReadyH.nil
    obtain ⟨z, hz, hzs⟩ := hHeld.z1; refine step_storeRow (by rfl) 30 _ _ rfl (w.heap.size + 1) (bkCells ((b).endsB ((trn0).say c (-1) 80)).1 (a)) rfl rfl 30 _ hz (by kernel_rfl) hzs (by kernel_rfl) ?_; obtain ⟨hS, hr1⟩ := hHeld.row1 (bkCells ((b).endsB ((trn0).say c (-1) 80)).1 (a)) rfl; have sd7 := hHeld.side1 (bkCells ((b).endsB ((trn0).say c (-1) 80)).1 (a))
    refine hK.out _ _ ?_ (fun hHeld => ?_)
    · (try dsimp only); first | done | ((first | exact hS | (rw [hW6]; exact hSd) | skip))
    clear hK K
    try simp only [Act.put, List.getElem_toArray, List.getElem_cons_succ, List.getElem_cons_zero, List.setIfInBounds_toArray, List.set_cons_zero, List.set_cons_succ]
    refine wpAnyH_ready (rs := [8]) (by kernel_rfl) (by simp) ?_
    refine AllReadyH.cons rfl (fun K hK => ?_) AllReadyH.nil
    obtain ⟨z, hz, hzs⟩ := hHeld.z2; refine step_storeRow (by rfl) 40 _ _ rfl (w.heap.size + 2) (tnCells ((b).endsB ((trn0).say c (-1) 80)).2 ({ trnA0 with rA := rA, rc := rc })) rfl rfl 40 _ hz (by kernel_rfl) hzs (by kernel_rfl) ?_; obtain ⟨hS, hr2⟩ := hHeld.row2 (tnCells ((b).endsB ((trn0).say c (-1) 80)).2 ({ trnA0 with rA := rA, rc := rc })) rfl; have sd8 := hHeld.side2 (tnCells ((b).endsB ((trn0).say c (-1) 80)).2 ({ trnA0 with rA := rA, rc := rc }))
    refine hK.out _ _ ?_ (fun hHeld => ?_)
    · (try dsimp only); first | done | ((first | exact hS | (rw [hW6]; exact hSd) | skip))
    clear hK K
    try simp only [Act.put, List.getElem_toArray, List.getElem_cons_succ, List.getElem_cons_zero, List.setIfInBounds_toArray, List.set_cons_zero, List.set_cons_succ]
    refine wpAnyH_done (by kernel_rfl) ?_ _
    skip
    go_wp2_with fail
    refine bodyPost_ret (results_cell_cell Try.results9 _ _ (w.heap.size + 1) (w.heap.size + 2) _ _ (bkCells ((b).endsB ((trn0).say c (-1) 80)).1 (a)) (tnCells ((b).endsB ((trn0).say c (-1) 80)).2 ({ trnA0 with rA := rA, rc := rc })) _ _ _ _ rfl ((setRow_other _ _ _ _ (by omega)).trans hr1) Try.underlying30 rfl (by kernel_rfl) rfl hr2 Try.underlying40 rfl (by kernel_rfl)) rfl ?_
    rw [HQ.out]
    exact ⟨a, _, rfl, (hB3.side sd7).side sd8, ⟨_, hb, (hT3.side sd7).side sd8⟩, hHeld.bel⟩
  obtain ⟨k, hk, hkl, hke, hkx, _⟩ := placeOf_mem hs
  rw [hkk] at hk
  subst hk
  have hls := List.length_erase_of_mem hs
  have HK : Hid (∀ q, (if keep = true ∧ sock ∉ dead then ((({ b with leased := b.leased.erase sock } : Bok).file (trn0.say c (-1) 0) sock now).1.endsB (({ b with leased := b.leased.erase sock } : Bok).file (trn0.say c (-1) 0) sock now).2) else ({ b with leased := b.leased.erase sock } : Bok).endsB { trn0.say c (-1) 0 with shut := [sock] }) = q → b.back c sock keep now dead = q) := Lib.hid (fun q hq => by
    rw [← hq]
    unfold Bok.back
    rw [if_neg hcl, if_pos hs]
    rfl)
  obtain ⟨b0, off, x, hA, _, _, _⟩ := hlea.at_ (i := k) hkl
  rw [hA] at hlea
  have hno := without24_any b0 off b.leased.length a.lc W.heap.size k b.leased W hlea (Nat.le_refl _) (by omega) hBW.lc hkl
  rw [← hA] at hno
  rw [hke] at hno
  have i0 : decide ((k : Int) < 0) = false := decide_eq_false (by omega)
  obtain ⟨n, hn⟩ : ∃ n, b.leased.length - 1 = n := ⟨_, rfl⟩
  rw [hn] at hno hls
  have HN := Lib.hid hls
  clear hA hkk hke hkx hs hn hls hlea hcl hc2
  go_enter Try.func9, Try.ntmps9
  go_upto_region 2 with fail
  change Code.wp _ _ _ _ ((((w.alloc (.cells (bkCells b a) 30)).alloc (.cells zeroBk 30)).alloc (.cells zeroTn 40)).alloc (.cells zeroTn 40))
  rw [hW]
  clear hW
  go_wp2_with fail
  refine hpl.mono ?_
  rintro e Wx ⟨rfl, rfl⟩
  go_wp2_with fail
  refine hno.mono ?_
  rintro e W2 ⟨A1, c1, rfl, ho1, hb2⟩
  have h2 := h0.below hb2
  have j10 : W2.cell? ⟨w.heap.size, 10, none⟩ = some (.slice a.lA b.leased.length a.lc) := by rw [cell_of_row _ _ 10 _ _ _ h2.rb]; rfl
  have f10 := rw_free h2.rb 10
  have sd := h2.sideB 10 (.slice A1 n c1)
  have h5 := h2.setB 10 (.slice A1 n c1)
  have hB5 := (hBW.below h0.le hb2).side sd
  have hl5 := (lsOk_I (base := base) (Ow.rebase ho1 h0.le)).side sd
  have hc1 : (b.leased.erase sock).length ≤ c1 := by have := ho1.2.1; rw [HN.out]; exact this
  obtain ⟨b1, hb1⟩ : ∃ x : Bok, x = { b with leased := b.leased.erase sock } := ⟨_, rfl⟩
  obtain ⟨a1, ha1⟩ : ∃ x : BokA, x = { a with lA := A1, lc := c1 } := ⟨_, rfl⟩
  have eB : (bkCells b a).setIfInBounds 10 (.slice A1 n c1) = bkCells b1 a1 := by rw [hb1, ha1, ← HN.out]; unfold bkCells; simp
  rw [eB] at h5
  go_upto_region 8 with fail
  obtain ⟨W5, hW5⟩ : ∃ W5, W2.setCell ⟨w.heap.size, 10, none⟩ (.slice A1 n c1) = W5 := ⟨_, rfl⟩
  rw [hW5] at h5 hB5 hl5 ⊢
  have hBk5 : BkOk W5 base b1 a1 := by rw [hb1, ha1]; exact ⟨hB5.idle, hl5, hB5.wait, hB5.ic, hc1, hB5.wc⟩
  have hTn5 : TnOk W5 w.heap.size trn0 trnA0 := tnOk0 _ _
  have hwr0 : b1.refs = b1.wait.length := by rw [hb1]; exact HR.out
  have HW := Lib.hid hwr0
  have hww : b1.wait.length ≤ 200 := by rw [hb1]; exact hw
  have hwl : b1.leased.length ≤ 900 := by rw [hb1]; show (b.leased.erase sock).length ≤ 900; have := HN.out; have := List.length_erase_le (a := sock) (l := b.leased); omega
  have hwi : b1.idle.length ≤ 900 := by rw [hb1]; show b.idle.length ≤ 900; omega
  rw [← hb1] at HK
  clear hwr0 hW5 hB5 hl5 eB hb1 ha1 sd h2 j10 f10 hc1 ho1 hb2 hno hpl k10 k16 h0 hBW
  have r5 := h5.rt
  go_wp2_with (first | (refine wpList_load_row rfl 40 _ rfl (w.heap.size + 3) rfl 40 _ _ _ r5 Try.underlying40 rfl (by kernel_rfl) ?_))
  refine (say24_any w.heap.size trn0 trnA0 c (-1) 0 W5 hTn5.rep h5.le hlen).mono ?_
  rintro e W6 ⟨rA, rc, rfl, hoR, hgR⟩
  have hRow := rpRow_of hTn5.rep
  have h6 := h5.grow hgR hRow
  have hB6 := hBk5.grow h5.le hgR hRow
  have hT6 := file_said hTn5 hoR hgR
  have r6 := h6.rt
  have sd6 := h6.sideTr (tnCells (trn0.say c (-1) 0) ⟨rA, rc, none, 0⟩)
  have h7 := h6.rowT (tnCells (trn0.say c (-1) 0) ⟨rA, rc, none, 0⟩)
  have hB7 := hB6.side sd6
  have hT7 := hT6.side sd6
  clear hTn5 hBk5 h5 r5 hoR hgR hRow hB6 hT6
  go_upto_region 9 with (first | (refine wpList_store_row rfl 40 _ _ rfl (w.heap.size + 3) (tnCells (trn0.say c (-1) 0) ⟨rA, rc, none, 0⟩) rfl rfl 40 _ r6 (by kernel_rfl) rfl (by kernel_rfl) ?_))
  change Code.wp _ _ _ _ (W6.setRow (w.heap.size + 3) (tnCells (trn0.say c (-1) 0) ⟨rA, rc, none, 0⟩))
  obtain ⟨W5, hW5⟩ : ∃ x, W6.setRow (w.heap.size + 3) (tnCells (trn0.say c (-1) 0) ⟨rA, rc, none, 0⟩) = x := ⟨_, rfl⟩
  have h5 : Dec2 (bkCells b1 a1) (tnCells (trn0.say c (-1) 0) ⟨rA, rc, none, 0⟩) w W5 := hW5 ▸ h7
  have hBk5 : BkOk W5 base b1 a1 := hW5 ▸ hB7
  have hTn5 : TnOk W5 w.heap.size (trn0.say c (-1) 0) ⟨rA, rc, none, 0⟩ := hW5 ▸ hT7
  rw [hW5]
  clear hW5 h7 hB7 hT7 sd6 r6 h6
  have hpd := rPlace24_any dA dn dc w.heap.size dead sock W5 (hd.below h5.bel) (by omega)
  cases keep
  · have HQ : Hid (b.back c sock false now dead = b1.endsB { trn0.say c (-1) 0 with shut := [sock] }) := Lib.hid (HK.out _ (if_neg (by simp)))
    clear HK hpd
    have hbn := Below.new_ W5 (.cells #[.int .i64 sock] 3)
    have hn2 := Ints.new1 W5 sock 3
    have l1 : W5.cell? ⟨w.heap.size + 3, 1, none⟩ = some (.slice none 0 0) := by rw [cell_of_row _ _ 1 _ _ _ h5.rt]; rfl
    go_upto_region 12 with (at_builtin; refine wpList_appI _ rfl (.tmp 66) (.tmp 68) rfl W5.heap.size none 0 0 [] rfl (OwI.nil_ _ _ _ _) (W5.heap.size + 1) (some ⟨W5.heap.size, 0, none⟩) 1 1 [sock] rfl hn2 (by omega) hbn.size ?_; intro A2 c2 w2 ho3 hg3 hr3; rw [Nat.zero_add] at ho3 ⊢; have hb3 := hbn.grown hg3 hbn.size (fun g hg2 => (by simp [rowOf] at hg2)); have h3 := h5.below hb3; have j1 : w2.cell? ⟨w.heap.size + 3, 1, none⟩ = some (.slice none 0 0) := (by rw [cell_of_row _ _ 1 _ _ _ h3.rt]; rfl); have f1 := rw_free h3.rt 1)
    rw [List.nil_append] at ho3
    have hB3 := hBk5.below h5.le hb3
    have hT3 := hTn5.below hb3
    have sdT := h3.sideT 1 (.slice A2 1 c2)
    have h6 := h3.setT 1 (.slice A2 1 c2)
    have ho6 := ow_side (Ow.rebase ho3 h5.le) (.inl rfl) sdT
    have hB6 := hB3.side sdT
    have hT6 := (hT3.side sdT).rep
    obtain ⟨t2, ht2⟩ : ∃ x : Trn, x = { trn0.say c (-1) 0 with shut := [sock] } := ⟨_, rfl⟩
    obtain ⟨u2, hu2⟩ : ∃ x : TrnA, x = ⟨rA, rc, A2, c2⟩ := ⟨_, rfl⟩
    have eT : (tnCells (trn0.say c (-1) 0) ⟨rA, rc, none, 0⟩).setIfInBounds 1 (.slice A2 1 c2) = tnCells t2 u2 := by rw [ht2, hu2]; unfold tnCells; simp
    rw [eT] at h6
    obtain ⟨V5, hV5⟩ : ∃ x, w2.setCell ⟨w.heap.size + 3, 1, none⟩ (.slice A2 1 c2) = x := ⟨_, rfl⟩
    rw [hV5] at h6 ho6 hB6 hT6 ⊢
    have hTn6 : TnOk V5 w.heap.size t2 u2 := by rw [ht2, hu2]; exact ⟨hT6, ho6⟩
    rw [← ht2] at HQ
    have HQQ := Lib.hid HQ.out
    clear HQ hV5 ho6 hT6 eT ht2 hu2 sdT h3 j1 f1 hB3 hT3 ho3 hb3 hg3 hr3 hn2 hbn l1 h5 hBk5 hTn5
    obtain ⟨W5', hW5⟩ : ∃ x, V5 = x := ⟨_, rfl⟩
    rw [hW5] at h6 hB6 hTn6 ⊢
    clear hW5
    have h5 := h6
    have hBk5 := hB6
    have hTn5 := hTn6
    clear h6 hB6 hTn6
    have hb5 := h5.rb
    have ht5 := h5.rt
    go_wp2_with (first | (refine wpList_load_row rfl 30 _ rfl w.heap.size rfl 30 _ _ _ hb5 Try.underlying30 rfl (by kernel_rfl) ?_) | (refine wpList_load_row rfl 40 _ rfl (w.heap.size + 3) rfl 40 _ _ _ ht5 Try.underlying40 rfl (by kernel_rfl) ?_))
    refine (ends24_any (b1) (a1) (t2) (u2) W5').mono ?_
    rintro en W6 ⟨rfl, hB6⟩
    have h6 := h5.below hB6
    have hBk6 := hBk5.below h5.le hB6
    have hTn6 := hTn5.below hB6
    obtain ⟨z2, hz2, hs2⟩ := h6.z1
    obtain ⟨z3, hz3, hs3⟩ := h6.z2
    have h7 := (h6.row1 (bkCells ((b1).endsB (t2)).1 (a1)) rfl)
    have sd7 := h6.side1 (bkCells ((b1).endsB (t2)).1 (a1))
    have h8 := h7.1.row2 (tnCells ((b1).endsB (t2)).2 (u2)) rfl
    have sd8 := h7.1.side2 (tnCells ((b1).endsB (t2)).2 (u2))
    have hz3' := (setRow_other W6 (w.heap.size + 1) (w.heap.size + 2) (bkCells ((b1).endsB (t2)).1 (a1)) (by omega)).trans hz3
    clear h5 hB6 hb5 ht5 hTn5 hBk5
    go_wp2_with (first | (refine wpList_store_row rfl 30 _ _ rfl (w.heap.size + 1) (bkCells ((b1).endsB (t2)).1 (a1)) rfl rfl 30 _ hz2 (by kernel_rfl) hs2 (by kernel_rfl) ?_) | (refine wpList_store_row rfl 40 _ _ rfl (w.heap.size + 2) (tnCells ((b1).endsB (t2)).2 (u2)) rfl rfl 40 _ hz3' (by kernel_rfl) hs3 (by kernel_rfl) ?_))
    refine bodyPost_ret (results_cell_cell Try.results9 _ _ (w.heap.size + 1) (w.heap.size + 2) _ _ (bkCells ((b1).endsB (t2)).1 (a1)) (tnCells ((b1).endsB (t2)).2 (u2)) _ _ _ _ rfl ((setRow_other _ _ _ _ (by omega)).trans h7.2) Try.underlying30 rfl (by kernel_rfl) rfl h8.2 Try.underlying40 rfl (by kernel_rfl)) rfl ?_
    rw [HQQ.out]
    exact ⟨a1, u2, rfl, (hBk6.side sd7).side sd8, ⟨_, hb, ((ends_tn hTn6).side sd7).side sd8⟩, h8.1.bel⟩
  · by_cases hdd : sock ∈ dead
    · have HQ : Hid (b.back c sock true now dead = b1.endsB { trn0.say c (-1) 0 with shut := [sock] }) := Lib.hid (HK.out _ (if_neg (fun h => h.2 hdd)))
      obtain ⟨k2, hk2, _⟩ := placeOf_mem hdd
      rw [hk2] at hpd
      have i2 : decide ((k2 : Int) < 0) = false := decide_eq_false (by omega)
      clear HK hk2 hdd
      go_wp2_with fail
      refine hpd.mono ?_
      rintro e Wx ⟨rfl, rfl⟩
      have hbn := Below.new_ W5 (.cells #[.int .i64 sock] 3)
      have hn2 := Ints.new1 W5 sock 3
      have l1 : W5.cell? ⟨w.heap.size + 3, 1, none⟩ = some (.slice none 0 0) := by rw [cell_of_row _ _ 1 _ _ _ h5.rt]; rfl
      go_upto_region 12 with (at_builtin; refine wpList_appI _ rfl (.tmp 66) (.tmp 68) rfl W5.heap.size none 0 0 [] rfl (OwI.nil_ _ _ _ _) (W5.heap.size + 1) (some ⟨W5.heap.size, 0, none⟩) 1 1 [sock] rfl hn2 (by omega) hbn.size ?_; intro A2 c2 w2 ho3 hg3 hr3; rw [Nat.zero_add] at ho3 ⊢; have hb3 := hbn.grown hg3 hbn.size (fun g hg2 => (by simp [rowOf] at hg2)); have h3 := h5.below hb3; have j1 : w2.cell? ⟨w.heap.size + 3, 1, none⟩ = some (.slice none 0 0) := (by rw [cell_of_row _ _ 1 _ _ _ h3.rt]; rfl); have f1 := rw_free h3.rt 1)
      rw [List.nil_append] at ho3
      have hB3 := hBk5.below h5.le hb3
      have hT3 := hTn5.below hb3
      have sdT := h3.sideT 1 (.slice A2 1 c2)
      have h6 := h3.setT 1 (.slice A2 1 c2)
      have ho6 := ow_side (Ow.rebase ho3 h5.le) (.inl rfl) sdT
      have hB6 := hB3.side sdT
      have hT6 := (hT3.side sdT).rep
      obtain ⟨t2, ht2⟩ : ∃ x : Trn, x = { trn0.say c (-1) 0 with shut := [sock] } := ⟨_, rfl⟩
      obtain ⟨u2, hu2⟩ : ∃ x : TrnA, x = ⟨rA, rc, A2, c2⟩ := ⟨_, rfl⟩
      have eT : (tnCells (trn0.say c (-1) 0) ⟨rA, rc, none, 0⟩).setIfInBounds 1 (.slice A2 1 c2) = tnCells t2 u2 := by rw [ht2, hu2]; unfold tnCells; simp
      rw [eT] at h6
      obtain ⟨V5, hV5⟩ : ∃ x, w2.setCell ⟨w.heap.size + 3, 1, none⟩ (.slice A2 1 c2) = x := ⟨_, rfl⟩
      rw [hV5] at h6 ho6 hB6 hT6 ⊢
      have hTn6 : TnOk V5 w.heap.size t2 u2 := by rw [ht2, hu2]; exact ⟨hT6, ho6⟩
      rw [← ht2] at HQ
      have HQQ := Lib.hid HQ.out
      clear HQ hV5 ho6 hT6 eT ht2 hu2 sdT h3 j1 f1 hB3 hT3 ho3 hb3 hg3 hr3 hn2 hbn l1 h5 hBk5 hTn5
      obtain ⟨W5', hW5⟩ : ∃ x, V5 = x := ⟨_, rfl⟩
      rw [hW5] at h6 hB6 hTn6 ⊢
      clear hW5
      have h5 := h6
      have hBk5 := hB6
      have hTn5 := hTn6
      clear h6 hB6 hTn6
      have hb5 := h5.rb
      have ht5 := h5.rt
      go_wp2_with (first | (refine wpList_load_row rfl 30 _ rfl w.heap.size rfl 30 _ _ _ hb5 Try.underlying30 rfl (by kernel_rfl) ?_) | (refine wpList_load_row rfl 40 _ rfl (w.heap.size + 3) rfl 40 _ _ _ ht5 Try.underlying40 rfl (by kernel_rfl) ?_))
      refine (ends24_any (b1) (a1) (t2) (u2) W5').mono ?_
      rintro en W6 ⟨rfl, hB6⟩
      have h6 := h5.below hB6
      have hBk6 := hBk5.below h5.le hB6
      have hTn6 := hTn5.below hB6
      obtain ⟨z2, hz2, hs2⟩ := h6.z1
      obtain ⟨z3, hz3, hs3⟩ := h6.z2
      have h7 := (h6.row1 (bkCells ((b1).endsB (t2)).1 (a1)) rfl)
      have sd7 := h6.side1 (bkCells ((b1).endsB (t2)).1 (a1))
      have h8 := h7.1.row2 (tnCells ((b1).endsB (t2)).2 (u2)) rfl
      have sd8 := h7.1.side2 (tnCells ((b1).endsB (t2)).2 (u2))
      have hz3' := (setRow_other W6 (w.heap.size + 1) (w.heap.size + 2) (bkCells ((b1).endsB (t2)).1 (a1)) (by omega)).trans hz3
      clear h5 hB6 hb5 ht5 hTn5 hBk5
      go_wp2_with (first | (refine wpList_store_row rfl 30 _ _ rfl (w.heap.size + 1) (bkCells ((b1).endsB (t2)).1 (a1)) rfl rfl 30 _ hz2 (by kernel_rfl) hs2 (by kernel_rfl) ?_) | (refine wpList_store_row rfl 40 _ _ rfl (w.heap.size + 2) (tnCells ((b1).endsB (t2)).2 (u2)) rfl rfl 40 _ hz3' (by kernel_rfl) hs3 (by kernel_rfl) ?_))
      refine bodyPost_ret (results_cell_cell Try.results9 _ _ (w.heap.size + 1) (w.heap.size + 2) _ _ (bkCells ((b1).endsB (t2)).1 (a1)) (tnCells ((b1).endsB (t2)).2 (u2)) _ _ _ _ rfl ((setRow_other _ _ _ _ (by omega)).trans h7.2) Try.underlying30 rfl (by kernel_rfl) rfl h8.2 Try.underlying40 rfl (by kernel_rfl)) rfl ?_
      rw [HQQ.out]
      exact ⟨a1, u2, rfl, (hBk6.side sd7).side sd8, ⟨_, hb, ((ends_tn hTn6).side sd7).side sd8⟩, h8.1.bel⟩
    · have HF : Hid (b.back c sock true now dead = (b1.file (trn0.say c (-1) 0) sock now).1.endsB (b1.file (trn0.say c (-1) 0) sock now).2) := Lib.hid (HK.out _ (if_pos ⟨rfl, hdd⟩))
      have hk2 := placeOf_miss hdd
      rw [hk2] at hpd
      clear HK hk2 hdd
      go_wp2_with fail
      refine hpd.mono ?_
      rintro e Wx ⟨rfl, rfl⟩
      have hrl : (trn0.say c (-1) 0).rep.length ≤ 800 := by simp [Trn.say, trn0]
      have hb5 := h5.rb
      have ht5 := h5.rt
      have hRow5 := rpRow_of hTn5.rep
      go_wp2_with (first | (refine wpList_load_row rfl 30 _ rfl w.heap.size rfl 30 _ _ _ hb5 Try.underlying30 rfl (by kernel_rfl) ?_) | (refine wpList_load_row rfl 40 _ rfl (w.heap.size + 3) rfl 40 _ _ _ ht5 Try.underlying40 rfl (by kernel_rfl) ?_))
      refine (file24_any base b1 a1 (trn0.say c (-1) 0) ⟨rA, rc, none, 0⟩ sock now W5 (Nat.le_trans hb h5.le) hBk5 (tn_rebase hTn5 hb) HW.out hww hwl hwi hrl rfl rfl).mono ?_
      rintro en Wf ⟨af, uf, rfl, hBf, hTf, hGf⟩
      have h5 := h5.grow hGf hRow5
      have hBk5 := hBf
      have hTn5 := hTf
      obtain ⟨q, hq⟩ : ∃ q, b1.file (trn0.say c (-1) 0) sock now = q := ⟨_, rfl⟩
      rw [hq] at hBk5 hTn5 HF ⊢
      clear hq hBf hTf hGf hRow5
      go_wp2_with fail
      refine (ends24_any q.1 af q.2 uf Wf).mono ?_
      rintro en W6 ⟨rfl, hB6⟩
      have h6 := h5.below hB6
      have hBk6 := hBk5.below h5.le hB6
      have hTn6 := hTn5.below hB6
      obtain ⟨z2, hz2, hs2⟩ := h6.z1
      obtain ⟨z3, hz3, hs3⟩ := h6.z2
      have h7 := (h6.row1 (bkCells (q.1.endsB q.2).1 (af)) rfl)
      have sd7 := h6.side1 (bkCells (q.1.endsB q.2).1 (af))
      have h8 := h7.1.row2 (tnCells (q.1.endsB q.2).2 (uf)) rfl
      have sd8 := h7.1.side2 (tnCells (q.1.endsB q.2).2 (uf))
      have hz3' := (setRow_other W6 (w.heap.size + 1) (w.heap.size + 2) (bkCells (q.1.endsB q.2).1 (af)) (by omega)).trans hz3
      clear h5 hB6 hb5 ht5 hTn5 hBk5
      go_wp2_with (first | (refine wpList_store_row rfl 30 _ _ rfl (w.heap.size + 1) (bkCells (q.1.endsB q.2).1 (af)) rfl rfl 30 _ hz2 (by kernel_rfl) hs2 (by kernel_rfl) ?_) | (refine wpList_store_row rfl 40 _ _ rfl (w.heap.size + 2) (tnCells (q.1.endsB q.2).2 (uf)) rfl rfl 40 _ hz3' (by kernel_rfl) hs3 (by kernel_rfl) ?_))
      refine bodyPost_ret (results_cell_cell Try.results9 _ _ (w.heap.size + 1) (w.heap.size + 2) _ _ (bkCells (q.1.endsB q.2).1 (af)) (tnCells (q.1.endsB q.2).2 (uf)) _ _ _ _ rfl ((setRow_other _ _ _ _ (by omega)).trans h7.2) Try.underlying30 rfl (by kernel_rfl) rfl h8.2 Try.underlying40 rfl (by kernel_rfl)) rfl ?_
      rw [HF.out]
      exact ⟨af, uf, rfl, (hBk6.side sd7).side sd8, ⟨_, Nat.le_refl _, ((ends_tn hTn6).side sd7).side sd8⟩, h8.1.bel⟩
end Go.Proofs.Ythjanhfjehccoaa
