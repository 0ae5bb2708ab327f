/-
  What Ask of switchboardref24 computes. Conditions: rows of at most 200.
-/
import Derived.Test.YthjanhfjehccoaaIdealBookPart5
namespace Go.Proofs.Ythjanhfjehccoaa
set_option linter.unusedVariables false
set_option linter.unusedSimpArgs false
open Go.RowKit

set_option maxRecDepth 100000 in
set_option maxHeartbeats 16000000 in
theorem ask24_any (b : Bok) (a : BokA) (c now : Int) (dA : Option Addr) (dn dc : Nat) (dead : List Int) (w : World) (base : Nat) (hb : base ≤ w.heap.size) (hB : BkOk w base b a) (hd : Ints w w.heap.size dA dn dead) (hr : b.refs = b.wait.length) (hw : b.wait.length ≤ 200) (hi : b.idle.length ≤ 200) (hl : b.leased.length ≤ 200) (hdn : dn ≤ 200) :
    Calls Try.prog 8 #[.agg (bkCells b a), .int .i64 c, .int .i64 now, .slice dA dn dc] w fun e w' => DecPost2 base (b.ask c now dead) w e w' := by
  obtain ⟨W, hW, h0⟩ := boxesD w (bkCells b a)
  have hBW := hB.below hb h0.bel
  have HR := Lib.hid hr
  have hrn : 0 ≤ b.refs ∧ b.refs ≤ 1099511627776 := by omega
  clear hr
  have k5 : W.cell? ⟨w.heap.size, 5, none⟩ = some (.int .i64 b.cf.2.2.2.2.2.1) := by rw [cell_of_row _ _ 5 _ _ _ h0.rb]; rfl
  have k9 : W.cell? ⟨w.heap.size, 9, none⟩ = some (.slice a.iA b.idle.length a.ic) := by rw [cell_of_row _ _ 9 _ _ _ h0.rb]; rfl
  have k16 : W.cell? ⟨w.heap.size, 16, none⟩ = some (.bool b.closed) := by rw [cell_of_row _ _ 16 _ _ _ h0.rb]; rfl
  have hlen : ([] : List Rpl).length ≤ 900 := Nat.zero_le _
  by_cases hcl : b.closed = true
  · have HQ : Hid (b.ask c now dead = b.endsB (trn0.say c (-1) 240)) := Lib.hid (by unfold Bok.ask; rw [if_pos hcl])
    rw [hcl] at k16
    clear hcl
    go_enter Try.func8, Try.ntmps8
    go_upto_region 2 with fail
    change Code.wp _ _ _ _ ((((w.alloc (.cells (bkCells b a) 30)).alloc (.cells zeroBk 30)).alloc (.cells zeroTn 40)).alloc (.cells zeroTn 40))
    rw [hW]
    clear hW
    go_upto_region 3 with fail
    clear k5 k9 k16
    have h5 := h0
    have hBk5 := hBW
    have hTn5 : TnOk W w.heap.size trn0 trnA0 := tnOk0 _ _
    obtain ⟨W5, hW5⟩ : ∃ x, W = x := ⟨_, rfl⟩
    rw [hW5] at h5 hBk5 hTn5 ⊢
    clear hW5 h0 hBW
    have hSd := h5.drew
    have hTd := hTn5.below (w' := W5.drew) ⟨rfl, rfl, rfl, Nat.le_refl _, fun _ _ => rfl⟩
    have hBd := hBk5.below (w' := W5.drew) h5.le ⟨rfl, rfl, rfl, Nat.le_refl _, fun _ _ => rfl⟩
    obtain ⟨W6, hW6⟩ : ∃ x, W5.drew = x := ⟨_, rfl⟩
    rw [hW6] at hSd hTd hBd
    clear h5 hTn5 hBk5
    go_upto_region 3 with fail
    refine wp_region_held_drew (S := (fun wx => Dec2 (bkCells (b) (a)) (tnCells (trn0) (trnA0)) w wx)) (by kernel_rfl) ?_ (fun hHeld => ?_)
    · (try dsimp only); first | done | ((first | exact hS | (rw [hW6]; exact hSd) | skip))
    refine wpAnyH_take (i := 0) (v := (.agg (bkCells (b) (a)))) rfl (by kernel_rfl) (by kernel_rfl) (by kernel_rfl) (fun _ _ _ h => h) (Or.inl ⟨by rfl, ?_⟩) hHeld ?_
    · intro wq hSw; (try dsimp only at hSw); exact exec_loadRow 30 _ rfl w.heap.size rfl 30 _ _ _ hSw.rb Try.underlying30 rfl (by kernel_rfl)
    try simp only [Act.put, List.getElem_toArray, List.getElem_cons_succ, List.getElem_cons_zero, List.setIfInBounds_toArray, List.set_cons_zero, List.set_cons_succ]
    refine wpAnyH_take (i := 1) (v := (.agg (tnCells (trn0) (trnA0)))) rfl (by kernel_rfl) (by kernel_rfl) (by kernel_rfl) (fun _ _ _ h => h) (Or.inl ⟨by rfl, ?_⟩) hHeld ?_
    · intro wq hSw; (try dsimp only at hSw); exact exec_loadRow 40 _ rfl (w.heap.size + 3) rfl 40 _ _ _ hSw.rt Try.underlying40 rfl (by kernel_rfl)
    try simp only [Act.put, List.getElem_toArray, List.getElem_cons_succ, List.getElem_cons_zero, List.setIfInBounds_toArray, List.set_cons_zero, List.set_cons_succ]
    first
     | (refine wpAnyH_take (i := 2) (v := ?_) rfl (by kernel_rfl) (by kernel_rfl) (by kernel_rfl) (fun _ _ _ h => h) (Or.inl ⟨by rfl, ?_⟩) hHeld ?_; rotate_left; (intro wq hSw; (try dsimp only at hSw); go_simp; done))
     | (refine wpAnyH_take (i := 2) (v := ?_) rfl (by kernel_rfl) (by kernel_rfl) (by kernel_rfl) (fun _ _ _ h => h) (Or.inl ⟨by rfl, ?_⟩) hHeld ?_; rotate_left; (intro wq hSw; (try dsimp only at hSw); go_simp; with_reducible rfl))
     | refine wpAnyH_take (i := 2) (v := undef) rfl (by kernel_rfl) (by kernel_rfl) (by kernel_rfl) (fun _ _ _ h => h) (Or.inr ⟨by rfl, rfl⟩) hHeld ?_
    try simp only [Act.put, List.getElem_toArray, List.getElem_cons_succ, List.getElem_cons_zero, List.setIfInBounds_toArray, List.set_cons_zero, List.set_cons_succ]
    refine wpAnyH_ready (rs := [3]) (by kernel_rfl) (by simp) ?_
    refine AllReadyH.cons rfl (fun K hK => ?_) AllReadyH.nil
    try rw [hW6]; go_simp; go_at_call 26; refine (say24_any w.heap.size (trn0) (trnA0) c (-1) 240 _ hTd.rep hSd.le hlen).mono ?_; rintro en wx ⟨rA, rc, rfl, hoR, hgR⟩; have hRow := rpRow_of hTd.rep; have hS := hSd.grow hgR hRow; have hB1 := hBd.grow hSd.le hgR hRow; have hT1 := file_said hTd hoR hgR; try go_wp2_with fail
    refine hK.out _ _ ?_ (fun hHeld => ?_)
    · (try dsimp only); first | done | ((first | exact hS | (rw [hW6]; exact hSd) | skip))
    clear hK K
    try simp only [Act.put, List.getElem_toArray, List.getElem_cons_succ, List.getElem_cons_zero, List.setIfInBounds_toArray, List.set_cons_zero, List.set_cons_succ]
    refine wpAnyH_ready (rs := [4]) (by kernel_rfl) (by simp) ?_
    refine AllReadyH.cons rfl (fun K hK => ?_) AllReadyH.nil
    go_simp; go_at_call 25; refine (ends24_any (b) (a) ((trn0).say c (-1) 240) ({ trnA0 with rA := rA, rc := rc }) _).mono ?_; rintro en wz ⟨rfl, hbN⟩; have hS := hHeld.below hbN; have hB3 := hB1.below hHeld.le hbN; have hT3 := ends_tn (b := b) (hT1.below hbN); try go_wp2_with fail
    refine hK.out _ _ ?_ (fun hHeld => ?_)
    · (try dsimp only); first | done | ((first | exact hS | (rw [hW6]; exact hSd) | skip))
    clear hK K
    try simp only [Act.put, List.getElem_toArray, List.getElem_cons_succ, List.getElem_cons_zero, List.setIfInBounds_toArray, List.set_cons_zero, List.set_cons_succ]
    first
     | (refine wpAnyH_take (i := 5) (v := ?_) rfl (by kernel_rfl) (by kernel_rfl) (by kernel_rfl) (fun _ _ _ h => h) (Or.inl ⟨by rfl, ?_⟩) hHeld ?_; rotate_left; (intro wq hSw; (try dsimp only at hSw); go_simp; done))
     | (refine wpAnyH_take (i := 5) (v := ?_) rfl (by kernel_rfl) (by kernel_rfl) (by kernel_rfl) (fun _ _ _ h => h) (Or.inl ⟨by rfl, ?_⟩) hHeld ?_; rotate_left; (intro wq hSw; (try dsimp only at hSw); go_simp; with_reducible rfl))
     | refine wpAnyH_take (i := 5) (v := undef) rfl (by kernel_rfl) (by kernel_rfl) (by kernel_rfl) (fun _ _ _ h => h) (Or.inr ⟨by rfl, rfl⟩) hHeld ?_
    try simp only [Act.put, List.getElem_toArray, List.getElem_cons_succ, List.getElem_cons_zero, List.setIfInBounds_toArray, List.set_cons_zero, List.set_cons_succ]
    first
     | (refine wpAnyH_take (i := 6) (v := ?_) rfl (by kernel_rfl) (by kernel_rfl) (by kernel_rfl) (fun _ _ _ h => h) (Or.inl ⟨by rfl, ?_⟩) hHeld ?_; rotate_left; (intro wq hSw; (try dsimp only at hSw); go_simp; done))
     | (refine wpAnyH_take (i := 6) (v := ?_) rfl (by kernel_rfl) (by kernel_rfl) (by kernel_rfl) (fun _ _ _ h => h) (Or.inl ⟨by rfl, ?_⟩) hHeld ?_; rotate_left; (intro wq hSw; (try dsimp only at hSw); go_simp; with_reducible rfl))
     | refine wpAnyH_take (i := 6) (v := undef) rfl (by kernel_rfl) (by kernel_rfl) (by kernel_rfl) (fun _ _ _ h => h) (Or.inr ⟨by rfl, rfl⟩) hHeld ?_
    try simp only [Act.put, List.getElem_toArray, List.getElem_cons_succ, List.getElem_cons_zero, List.setIfInBounds_toArray, List.set_cons_zero, List.set_cons_succ]
    refine wpAnyH_ready (rs := [7]) (by kernel_rfl) (by simp) ?_
    refine AllReadyH.cons rfl (fun K hK => ?_) AllReadyH.nil
    obtain ⟨z, hz, hzs⟩ := hHeld.z1; refine step_storeRow (by rfl) 30 _ _ rfl (w.heap.size + 1) (bkCells ((b).endsB ((trn0).say c (-1) 240)).1 (a)) rfl rfl 30 _ hz (by kernel_rfl) hzs (by kernel_rfl) ?_; obtain ⟨hS, hr1⟩ := hHeld.row1 (bkCells ((b).endsB ((trn0).say c (-1) 240)).1 (a)) rfl; have sd7 := hHeld.side1 (bkCells ((b).endsB ((trn0).say c (-1) 240)).1 (a))
    refine hK.out _ _ ?_ (fun hHeld => ?_)
    · (try dsimp only); first | done | ((first | exact hS | (rw [hW6]; exact hSd) | skip))
    clear hK K
    try simp only [Act.put, List.getElem_toArray, List.getElem_cons_succ, List.getElem_cons_zero, List.setIfInBounds_toArray, List.set_cons_zero, List.set_cons_succ]
    refine wpAnyH_ready (rs := [8]) (by kernel_rfl) (by simp) ?_
    refine AllReadyH.cons rfl (fun K hK => ?_) AllReadyH.nil
    obtain ⟨z, hz, hzs⟩ := hHeld.z2; refine step_storeRow (by rfl) 40 _ _ rfl (w.heap.size + 2) (tnCells ((b).endsB ((trn0).say c (-1) 240)).2 ({ trnA0 with rA := rA, rc := rc })) rfl rfl 40 _ hz (by kernel_rfl) hzs (by kernel_rfl) ?_; obtain ⟨hS, hr2⟩ := hHeld.row2 (tnCells ((b).endsB ((trn0).say c (-1) 240)).2 ({ trnA0 with rA := rA, rc := rc })) rfl; have sd8 := hHeld.side2 (tnCells ((b).endsB ((trn0).say c (-1) 240)).2 ({ trnA0 with rA := rA, rc := rc }))
    refine hK.out _ _ ?_ (fun hHeld => ?_)
    · (try dsimp only); first | done | ((first | exact hS | (rw [hW6]; exact hSd) | skip))
    clear hK K
    try simp only [Act.put, List.getElem_toArray, List.getElem_cons_succ, List.getElem_cons_zero, List.setIfInBounds_toArray, List.set_cons_zero, List.set_cons_succ]
    refine wpAnyH_done (by kernel_rfl) ?_ _
    skip
    go_wp2_with fail
    refine bodyPost_ret (results_cell_cell Try.results8 _ _ (w.heap.size + 1) (w.heap.size + 2) _ _ (bkCells ((b).endsB ((trn0).say c (-1) 240)).1 (a)) (tnCells ((b).endsB ((trn0).say c (-1) 240)).2 ({ trnA0 with rA := rA, rc := rc })) _ _ _ _ rfl ((setRow_other _ _ _ _ (by omega)).trans hr1) Try.underlying30 rfl (by kernel_rfl) rfl hr2 Try.underlying40 rfl (by kernel_rfl)) rfl ?_
    rw [HQ.out]
    exact ⟨a, _, rfl, (hB3.side sd7).side sd8, ⟨_, hb, (hT3.side sd7).side sd8⟩, hHeld.bel⟩
  have hc2 : b.closed = false := by simpa using hcl
  rw [hc2] at k16
  have htl := topJ_le b.idle dead b.cf.2.2.2.2.2.1 now
  have hcall := rTop_any a.iA b.idle.length a.ic b.idle b.cf.2.2.2.2.2.1 now dA dn dc dead W (hBW.res h0.le) (by omega) hBW.ic ((hd.below h0.bel).more h0.le) (by omega)
  have HQ0 : b.ask c now dead = (let j := topJ b.idle dead b.cf.2.2.2.2.2.1 now
    let b1 : Bok := { b with idle := b.idle.take (j - 1) }
    let t1 : Trn := { trn0 with shut := topO b.idle j }
    if 0 < j then ({ b1 with leased := b.leased ++ [topS b.idle j] } : Bok).endsB (t1.say c (topS b.idle j) 0)
    else if b.cf.2.2.1 ≤ (b.wait.length : Int) then b1.endsB (t1.say c (-1) 230)
    else ({ b1 with wait := b.wait ++ [c], refs := max b.refs 0 + 1 } : Bok).endsB t1) := by unfold Bok.ask; rw [if_neg hcl]
  dsimp only at HQ0
  have HQ := Lib.hid HQ0
  clear HQ0 hcl hc2
  generalize topJ b.idle dead b.cf.2.2.2.2.2.1 now = j at hcall HQ htl
  generalize topS b.idle j = sock at hcall HQ
  generalize topO b.idle j = ol at hcall HQ
  obtain ⟨gl, hgl⟩ : ∃ x, b.idle.take (j - 1) = x := ⟨_, rfl⟩
  have hgn : gl.length = j - 1 := by rw [← hgl, List.length_take]; omega
  rw [hgl] at hcall HQ
  clear hgl
  obtain ⟨ok, hok⟩ : ∃ x, decide (0 < j) = x := ⟨_, rfl⟩
  rw [hok] at hcall
  have HOK := Lib.hid hok
  clear hok
  go_enter Try.func8, Try.ntmps8
  go_upto_region 2 with fail
  change Code.wp _ _ _ _ ((((w.alloc (.cells (bkCells b a) 30)).alloc (.cells zeroBk 30)).alloc (.cells zeroTn 40)).alloc (.cells zeroTn 40))
  rw [hW]
  clear hW
  go_wp2_with fail
  refine hcall.mono ?_
  rintro e W2 ⟨A1, c1, A2, c2, rfl, ho1, ho2, hb2⟩
  obtain ⟨m, hm⟩ : ∃ m, b.idle.length - j = m := ⟨_, rfl⟩
  rw [hm] at ho2 ⊢
  have hom := ho2.len
  obtain ⟨n, hn⟩ : ∃ n, j - 1 = n := ⟨_, rfl⟩
  rw [hn] at ho1 hgn ⊢
  have h2 := h0.below hb2
  have j9 : W2.cell? ⟨w.heap.size, 9, none⟩ = some (.slice a.iA b.idle.length a.ic) := by rw [cell_of_row _ _ 9 _ _ _ h2.rb]; rfl
  have f9 := rw_free h2.rb 9
  have hB2 := hBW.below h0.le hb2
  have sdB := h2.sideB 9 (.slice A1 n c1)
  have h3 := h2.setB 9 (.slice A1 n c1)
  have j1 : (W2.setCell ⟨w.heap.size, 9, none⟩ (.slice A1 n c1)).cell? ⟨w.heap.size + 3, 1, none⟩ = some (.slice none 0 0) := by rw [cell_of_row _ _ 1 _ _ _ h3.rt]; rfl
  have f1 := rw_free h3.rt 1
  have sdT := h3.sideT 1 (.slice A2 m c2)
  have h5 := h3.setT 1 (.slice A2 m c2)
  have hc1 : gl.length ≤ c1 := by rw [hgn]; exact ho1.2.2.1
  have hi5 := ((lsOk_Re (base := base) (A := A1) (l := gl) ⟨ho1.1, Ow.rebase ho1.2 h0.le⟩).side sdB).side sdT
  have ho5 := ow_side (ow_side (Ow.rebase ho2 h0.le) (.inl rfl) sdB) (.inl rfl) sdT
  have hB5 := (hB2.side sdB).side sdT
  obtain ⟨b1, hb1⟩ : ∃ x : Bok, x = { b with idle := gl } := ⟨_, rfl⟩
  obtain ⟨a1, ha1⟩ : ∃ x : BokA, x = { a with iA := A1, ic := c1 } := ⟨_, rfl⟩
  obtain ⟨t1, ht1⟩ : ∃ x : Trn, x = { trn0 with shut := ol } := ⟨_, rfl⟩
  obtain ⟨u1, hu1⟩ : ∃ x : TrnA, x = { trnA0 with hA := A2, hc := c2 } := ⟨_, rfl⟩
  have eB : (bkCells b a).setIfInBounds 9 (.slice A1 n c1) = bkCells b1 a1 := by rw [hb1, ha1, ← hgn]; unfold bkCells; simp
  have eT : (tnCells trn0 trnA0).setIfInBounds 1 (.slice A2 m c2) = tnCells t1 u1 := by rw [ht1, hu1, ← hom]; unfold tnCells trn0 trnA0; simp
  rw [eB, eT] at h5
  have HN := Lib.hid hn
  have HM := Lib.hid hm
  clear hn hm
  go_upto_region 7 with fail
  obtain ⟨W5, hW5⟩ : ∃ W5, (W2.setCell ⟨w.heap.size, 9, none⟩ (.slice A1 n c1)).setCell ⟨w.heap.size + 3, 1, none⟩ (.slice A2 m c2) = W5 := ⟨_, rfl⟩
  rw [hW5] at h5 hi5 ho5 hB5 ⊢
  have hBk5 : BkOk W5 base b1 a1 := by rw [hb1, ha1]; exact ⟨hi5, hB5.leased, hB5.wait, hc1, hB5.lc, hB5.wc⟩
  have hTn5 : TnOk W5 w.heap.size t1 u1 := by rw [ht1, hu1]; exact ⟨OwR.nil_ _ _ _ _, by rw [← hom] at ho5; exact ho5⟩
  have hlen1 : t1.rep.length ≤ 900 := by rw [ht1]; exact Nat.zero_le _
  have q1 : b1.leased = b.leased := by rw [hb1]
  have q2 : b1.wait = b.wait := by rw [hb1]
  have q3 : b1.cf = b.cf := by rw [hb1]
  have q4 : b1.refs = b.refs := by rw [hb1]
  have HQ2 : Hid (b.ask c now dead = if 0 < j then ({ b1 with leased := b1.leased ++ [sock] } : Bok).endsB (t1.say c sock 0)
    else if b1.cf.2.2.1 ≤ (b1.wait.length : Int) then b1.endsB (t1.say c (-1) 230)
    else ({ b1 with wait := b1.wait ++ [c], refs := b1.refs + 1 } : Bok).endsB t1) := Lib.hid (by
      rw [HQ.out, hb1, ht1]
      have hmx : max b.refs 0 = b.refs := by omega
      rw [hmx])
  have hl1 : b1.leased.length ≤ 200 := by rw [q1]; exact hl
  have hw1 : b1.wait.length ≤ 200 := by rw [q2]; exact hw
  have hrn1 : 0 ≤ b1.refs ∧ b1.refs ≤ 1099511627776 := by rw [q4]; exact hrn
  clear HQ hW5 hi5 ho5 hB5 eB eT hb1 ha1 ht1 hu1 sdB sdT h3 h2 j9 f9 j1 f1 hB2 ho1 ho2 hb2 hc1 hcall k5 k9 k16 h0 hBW q1 q2 q3 q4 hom hgn htl hlen hB hd hw hl hrn
  cases ok
  case true =>
    have HQ := Lib.hid (HQ2.out.trans (if_pos (of_decide_eq_true HOK.out)))
    have k10 : W5.cell? ⟨w.heap.size, 10, none⟩ = some (.slice a1.lA b1.leased.length a1.lc) := by rw [cell_of_row _ _ 10 _ _ _ h5.rb]; rfl
    clear HQ2 HOK
    go_wp2_with fail
    refine (with24_any a1.lA b1.leased.length a1.lc W5.heap.size b1.leased sock W5 (hBk5.lea h5.le) (Nat.le_refl _) (by omega)).mono ?_
    rintro e W7 ⟨A7, c7, rfl, ho7, hb7⟩
    have h7 := h5.below hb7
    have j10 : W7.cell? ⟨w.heap.size, 10, none⟩ = some (.slice a1.lA b1.leased.length a1.lc) := by rw [cell_of_row _ _ 10 _ _ _ h7.rb]; rfl
    have f10 := rw_free h7.rb 10
    have sd := h7.sideB 10 (.slice A7 (b1.leased.length + 1) c7)
    have h8 := h7.setB 10 (.slice A7 (b1.leased.length + 1) c7)
    have hl8 := (lsOk_I (base := base) (Ow.rebase ho7 h5.le)).side sd
    have hc8 : (b1.leased ++ [sock]).length ≤ c7 := by have := ho7.2.1; simp; omega
    have hB8 := (hBk5.below h5.le hb7).side sd
    have hT8 := (hTn5.below hb7).side sd
    obtain ⟨b2, hb2⟩ : ∃ x : Bok, x = { b1 with leased := b1.leased ++ [sock] } := ⟨_, rfl⟩
    obtain ⟨a2, ha2⟩ : ∃ x : BokA, x = { a1 with lA := A7, lc := c7 } := ⟨_, rfl⟩
    have eB : (bkCells b1 a1).setIfInBounds 10 (.slice A7 (b1.leased.length + 1) c7) = bkCells b2 a2 := by rw [hb2, ha2]; unfold bkCells; simp
    rw [eB] at h8
    go_upto_region 9 with fail
    obtain ⟨V5, hV5⟩ : ∃ x, W7.setCell ⟨w.heap.size, 10, none⟩ (.slice A7 (b1.leased.length + 1) c7) = x := ⟨_, rfl⟩
    rw [hV5] at h8 hl8 hB8 hT8 ⊢
    have hBk8 : BkOk V5 base b2 a2 := by rw [hb2, ha2]; exact ⟨hB8.idle, hl8, hB8.wait, hB8.ic, hc8, hB8.wc⟩
    rw [← hb2] at HQ
    have HQQ := Lib.hid HQ.out
    clear HQ hV5 hl8 hB8 eB hb2 ha2 sd h7 j10 f10 hc8 ho7 hb7 k10 h5 hBk5 hTn5
    obtain ⟨W5', hW5⟩ : ∃ x, V5 = x := ⟨_, rfl⟩
    rw [hW5] at h8 hBk8 hT8 ⊢
    clear hW5
    have h5 := h8
    have hBk5 := hBk8
    have hTn5 := hT8
    have hlen := hlen1
    clear h8 hBk8 hT8 hlen1
    have hSd := h5.drew
    have hTd := hTn5.below (w' := W5'.drew) ⟨rfl, rfl, rfl, Nat.le_refl _, fun _ _ => rfl⟩
    have hBd := hBk5.below (w' := W5'.drew) h5.le ⟨rfl, rfl, rfl, Nat.le_refl _, fun _ _ => rfl⟩
    obtain ⟨W6, hW6⟩ : ∃ x, W5'.drew = x := ⟨_, rfl⟩
    rw [hW6] at hSd hTd hBd
    clear h5 hTn5 hBk5
    go_upto_region 9 with fail
    refine wp_region_held_drew (S := (fun wx => Dec2 (bkCells (b2) (a2)) (tnCells (t1) (u1)) w wx)) (by kernel_rfl) ?_ (fun hHeld => ?_)
    · (try dsimp only); first | done | ((first | exact hS | (rw [hW6]; exact hSd) | skip))
    refine wpAnyH_take (i := 0) (v := (.agg (bkCells (b2) (a2)))) rfl (by kernel_rfl) (by kernel_rfl) (by kernel_rfl) (fun _ _ _ h => h) (Or.inl ⟨by rfl, ?_⟩) hHeld ?_
    · intro wq hSw; (try dsimp only at hSw); exact exec_loadRow 30 _ rfl w.heap.size rfl 30 _ _ _ hSw.rb Try.underlying30 rfl (by kernel_rfl)
    try simp only [Act.put, List.getElem_toArray, List.getElem_cons_succ, List.getElem_cons_zero, List.setIfInBounds_toArray, List.set_cons_zero, List.set_cons_succ]
    refine wpAnyH_take (i := 1) (v := (.agg (tnCells (t1) (u1)))) rfl (by kernel_rfl) (by kernel_rfl) (by kernel_rfl) (fun _ _ _ h => h) (Or.inl ⟨by rfl, ?_⟩) hHeld ?_
    · intro wq hSw; (try dsimp only at hSw); exact exec_loadRow 40 _ rfl (w.heap.size + 3) rfl 40 _ _ _ hSw.rt Try.underlying40 rfl (by kernel_rfl)
    try simp only [Act.put, List.getElem_toArray, List.getElem_cons_succ, List.getElem_cons_zero, List.setIfInBounds_toArray, List.set_cons_zero, List.set_cons_succ]
    first
     | (refine wpAnyH_take (i := 2) (v := ?_) rfl (by kernel_rfl) (by kernel_rfl) (by kernel_rfl) (fun _ _ _ h => h) (Or.inl ⟨by rfl, ?_⟩) hHeld ?_; rotate_left; (intro wq hSw; (try dsimp only at hSw); go_simp; done))
     | (refine wpAnyH_take (i := 2) (v := ?_) rfl (by kernel_rfl) (by kernel_rfl) (by kernel_rfl) (fun _ _ _ h => h) (Or.inl ⟨by rfl, ?_⟩) hHeld ?_; rotate_left; (intro wq hSw; (try dsimp only at hSw); go_simp; with_reducible rfl))
     | refine wpAnyH_take (i := 2) (v := undef) rfl (by kernel_rfl) (by kernel_rfl) (by kernel_rfl) (fun _ _ _ h => h) (Or.inr ⟨by rfl, rfl⟩) hHeld ?_
    try simp only [Act.put, List.getElem_toArray, List.getElem_cons_succ, List.getElem_cons_zero, List.setIfInBounds_toArray, List.set_cons_zero, List.set_cons_succ]
    first
     | (refine wpAnyH_take (i := 3) (v := ?_) rfl (by kernel_rfl) (by kernel_rfl) (by kernel_rfl) (fun _ _ _ h => h) (Or.inl ⟨by rfl, ?_⟩) hHeld ?_; rotate_left; (intro wq hSw; (try dsimp only at hSw); go_simp; done))
     | (refine wpAnyH_take (i := 3) (v := ?_) rfl (by kernel_rfl) (by kernel_rfl) (by kernel_rfl) (fun _ _ _ h => h) (Or.inl ⟨by rfl, ?_⟩) hHeld ?_; rotate_left; (intro wq hSw; (try dsimp only at hSw); go_simp; with_reducible rfl))
     | refine wpAnyH_take (i := 3) (v := undef) rfl (by kernel_rfl) (by kernel_rfl) (by kernel_rfl) (fun _ _ _ h => h) (Or.inr ⟨by rfl, rfl⟩) hHeld ?_
    try simp only [Act.put, List.getElem_toArray, List.getElem_cons_succ, List.getElem_cons_zero, List.setIfInBounds_toArray, List.set_cons_zero, List.set_cons_succ]
    refine wpAnyH_ready (rs := [4]) (by kernel_rfl) (by simp) ?_
    refine AllReadyH.cons rfl (fun K hK => ?_) AllReadyH.nil
    try rw [hW6]; go_simp; go_at_call 26; refine (say24_any w.heap.size (t1) (u1) c sock 0 _ hTd.rep hSd.le hlen).mono ?_; rintro en wx ⟨rA, rc, rfl, hoR, hgR⟩; have hRow := rpRow_of hTd.rep; have hS := hSd.grow hgR hRow; have hB1 := hBd.grow hSd.le hgR hRow; have hT1 := file_said hTd hoR hgR; try go_wp2_with fail
    refine hK.out _ _ ?_ (fun hHeld => ?_)
    · (try dsimp only); first | done | ((first | exact hS | (rw [hW6]; exact hSd) | skip))
    clear hK K
    try simp only [Act.put, List.getElem_toArray, List.getElem_cons_succ, List.getElem_cons_zero, List.setIfInBounds_toArray, List.set_cons_zero, List.set_cons_succ]
    refine wpAnyH_ready (rs := [5]) (by kernel_rfl) (by simp) ?_
    refine AllReadyH.cons rfl (fun K hK => ?_) AllReadyH.nil
    go_simp; go_at_call 25; refine (ends24_any (b2) (a2) ((t1).say c sock 0) ({ u1 with rA := rA, rc := rc }) _).mono ?_; rintro en wz ⟨rfl, hbN⟩; have hS := hHeld.below hbN; have hB3 := hB1.below hHeld.le hbN; have hT3 := ends_tn (b := b2) (hT1.below hbN); try go_wp2_with fail
    refine hK.out _ _ ?_ (fun hHeld => ?_)
    · (try dsimp only); first | done | ((first | exact hS | (rw [hW6]; exact hSd) | skip))
    clear hK K
    try simp only [Act.put, List.getElem_toArray, List.getElem_cons_succ, List.getElem_cons_zero, List.setIfInBounds_toArray, List.set_cons_zero, List.set_cons_succ]
    first
     | (refine wpAnyH_take (i := 6) (v := ?_) rfl (by kernel_rfl) (by kernel_rfl) (by kernel_rfl) (fun _ _ _ h => h) (Or.inl ⟨by rfl, ?_⟩) hHeld ?_; rotate_left; (intro wq hSw; (try dsimp only at hSw); go_simp; done))
     | (refine wpAnyH_take (i := 6) (v := ?_) rfl (by kernel_rfl) (by kernel_rfl) (by kernel_rfl) (fun _ _ _ h => h) (Or.inl ⟨by rfl, ?_⟩) hHeld ?_; rotate_left; (intro wq hSw; (try dsimp only at hSw); go_simp; with_reducible rfl))
     | refine wpAnyH_take (i := 6) (v := undef) rfl (by kernel_rfl) (by kernel_rfl) (by kernel_rfl) (fun _ _ _ h => h) (Or.inr ⟨by rfl, rfl⟩) hHeld ?_
    try simp only [Act.put, List.getElem_toArray, List.getElem_cons_succ, List.getElem_cons_zero, List.setIfInBounds_toArray, List.set_cons_zero, List.set_cons_succ]
    first
     | (refine wpAnyH_take (i := 7) (v := ?_) rfl (by kernel_rfl) (by kernel_rfl) (by kernel_rfl) (fun _ _ _ h => h) (Or.inl ⟨by rfl, ?_⟩) hHeld ?_; rotate_left; (intro wq hSw; (try dsimp only at hSw); go_simp; done))
     | (refine wpAnyH_take (i := 7) (v := ?_) rfl (by kernel_rfl) (by kernel_rfl) (by kernel_rfl) (fun _ _ _ h => h) (Or.inl ⟨by rfl, ?_⟩) hHeld ?_; rotate_left; (intro wq hSw; (try dsimp only at hSw); go_simp; with_reducible rfl))
     | refine wpAnyH_take (i := 7) (v := undef) rfl (by kernel_rfl) (by kernel_rfl) (by kernel_rfl) (fun _ _ _ h => h) (Or.inr ⟨by rfl, rfl⟩) hHeld ?_
    try simp only [Act.put, List.getElem_toArray, List.getElem_cons_succ, List.getElem_cons_zero, List.setIfInBounds_toArray, List.set_cons_zero, List.set_cons_succ]
    refine wpAnyH_ready (rs := [8]) (by kernel_rfl) (by simp) ?_
    refine AllReadyH.cons rfl (fun K hK => ?_) AllReadyH.nil
    obtain ⟨z, hz, hzs⟩ := hHeld.z1; refine step_storeRow (by rfl) 30 _ _ rfl (w.heap.size + 1) (bkCells ((b2).endsB ((t1).say c sock 0)).1 (a2)) rfl rfl 30 _ hz (by kernel_rfl) hzs (by kernel_rfl) ?_; obtain ⟨hS, hr1⟩ := hHeld.row1 (bkCells ((b2).endsB ((t1).say c sock 0)).1 (a2)) rfl; have sd7 := hHeld.side1 (bkCells ((b2).endsB ((t1).say c sock 0)).1 (a2))
    refine hK.out _ _ ?_ (fun hHeld => ?_)
    · (try dsimp only); first | done | ((first | exact hS | (rw [hW6]; exact hSd) | skip))
    clear hK K
    try simp only [Act.put, List.getElem_toArray, List.getElem_cons_succ, List.getElem_cons_zero, List.setIfInBounds_toArray, List.set_cons_zero, List.set_cons_succ]
    refine wpAnyH_ready (rs := [9]) (by kernel_rfl) (by simp) ?_
    refine AllReadyH.cons rfl (fun K hK => ?_) AllReadyH.nil
    obtain ⟨z, hz, hzs⟩ := hHeld.z2; refine step_storeRow (by rfl) 40 _ _ rfl (w.heap.size + 2) (tnCells ((b2).endsB ((t1).say c sock 0)).2 ({ u1 with rA := rA, rc := rc })) rfl rfl 40 _ hz (by kernel_rfl) hzs (by kernel_rfl) ?_; obtain ⟨hS, hr2⟩ := hHeld.row2 (tnCells ((b2).endsB ((t1).say c sock 0)).2 ({ u1 with rA := rA, rc := rc })) rfl; have sd8 := hHeld.side2 (tnCells ((b2).endsB ((t1).say c sock 0)).2 ({ u1 with rA := rA, rc := rc }))
    refine hK.out _ _ ?_ (fun hHeld => ?_)
    · (try dsimp only); first | done | ((first | exact hS | (rw [hW6]; exact hSd) | skip))
    clear hK K
    try simp only [Act.put, List.getElem_toArray, List.getElem_cons_succ, List.getElem_cons_zero, List.setIfInBounds_toArray, List.set_cons_zero, List.set_cons_succ]
    refine wpAnyH_done (by kernel_rfl) ?_ _
    skip
    go_wp2_with fail
    refine bodyPost_ret (results_cell_cell Try.results8 _ _ (w.heap.size + 1) (w.heap.size + 2) _ _ (bkCells ((b2).endsB ((t1).say c sock 0)).1 (a2)) (tnCells ((b2).endsB ((t1).say c sock 0)).2 ({ u1 with rA := rA, rc := rc })) _ _ _ _ rfl ((setRow_other _ _ _ _ (by omega)).trans hr1) Try.underlying30 rfl (by kernel_rfl) rfl hr2 Try.underlying40 rfl (by kernel_rfl)) rfl ?_
    rw [HQQ.out]
    exact ⟨a2, _, rfl, (hB3.side sd7).side sd8, ⟨_, hb, (hT3.side sd7).side sd8⟩, hHeld.bel⟩
  case false =>
    have HQ3 := Lib.hid (HQ2.out.trans (if_neg (of_decide_eq_false HOK.out)))
    have k11 : W5.cell? ⟨w.heap.size, 11, none⟩ = some (.slice a1.wA b1.wait.length a1.wc) := by rw [cell_of_row _ _ 11 _ _ _ h5.rb]; rfl
    have k2 : W5.cell? ⟨w.heap.size, 2, none⟩ = some (.int .i64 b1.cf.2.2.1) := by rw [cell_of_row _ _ 2 _ _ _ h5.rb]; rfl
    clear HQ2 HOK
    by_cases hfull : b1.cf.2.2.1 ≤ (b1.wait.length : Int)
    · have HQ := Lib.hid (HQ3.out.trans (if_pos hfull))
      have d2 : decide (b1.cf.2.2.1 ≤ (b1.wait.length : Int)) = true := decide_eq_true hfull
      have hlen := hlen1
      clear HQ3 hfull hlen1
      go_upto_region 11 with fail
      clear k11 k2
      have hSd := h5.drew
      have hTd := hTn5.below (w' := W5.drew) ⟨rfl, rfl, rfl, Nat.le_refl _, fun _ _ => rfl⟩
      have hBd := hBk5.below (w' := W5.drew) h5.le ⟨rfl, rfl, rfl, Nat.le_refl _, fun _ _ => rfl⟩
      obtain ⟨W6, hW6⟩ : ∃ x, W5.drew = x := ⟨_, rfl⟩
      rw [hW6] at hSd hTd hBd
      clear h5 hTn5 hBk5
      go_upto_region 11 with fail
      refine wp_region_held_drew (S := (fun wx => Dec2 (bkCells (b1) (a1)) (tnCells (t1) (u1)) w wx)) (by kernel_rfl) ?_ (fun hHeld => ?_)
      · (try dsimp only); first | done | ((first | exact hS | (rw [hW6]; exact hSd) | skip))
      refine wpAnyH_take (i := 0) (v := (.agg (bkCells (b1) (a1)))) rfl (by kernel_rfl) (by kernel_rfl) (by kernel_rfl) (fun _ _ _ h => h) (Or.inl ⟨by rfl, ?_⟩) hHeld ?_
      · intro wq hSw; (try dsimp only at hSw); exact exec_loadRow 30 _ rfl w.heap.size rfl 30 _ _ _ hSw.rb Try.underlying30 rfl (by kernel_rfl)
      try simp only [Act.put, List.getElem_toArray, List.getElem_cons_succ, List.getElem_cons_zero, List.setIfInBounds_toArray, List.set_cons_zero, List.set_cons_succ]
      refine wpAnyH_take (i := 1) (v := (.agg (tnCells (t1) (u1)))) rfl (by kernel_rfl) (by kernel_rfl) (by kernel_rfl) (fun _ _ _ h => h) (Or.inl ⟨by rfl, ?_⟩) hHeld ?_
      · intro wq hSw; (try dsimp only at hSw); exact exec_loadRow 40 _ rfl (w.heap.size + 3) rfl 40 _ _ _ hSw.rt Try.underlying40 rfl (by kernel_rfl)
      try simp only [Act.put, List.getElem_toArray, List.getElem_cons_succ, List.getElem_cons_zero, List.setIfInBounds_toArray, List.set_cons_zero, List.set_cons_succ]
      first
       | (refine wpAnyH_take (i := 2) (v := ?_) rfl (by kernel_rfl) (by kernel_rfl) (by kernel_rfl) (fun _ _ _ h => h) (Or.inl ⟨by rfl, ?_⟩) hHeld ?_; rotate_left; (intro wq hSw; (try dsimp only at hSw); go_simp; done))
       | (refine wpAnyH_take (i := 2) (v := ?_) rfl (by kernel_rfl) (by kernel_rfl) (by kernel_rfl) (fun _ _ _ h => h) (Or.inl ⟨by rfl, ?_⟩) hHeld ?_; rotate_left; (intro wq hSw; (try dsimp only at hSw); go_simp; with_reducible rfl))
       | refine wpAnyH_take (i := 2) (v := undef) rfl (by kernel_rfl) (by kernel_rfl) (by kernel_rfl) (fun _ _ _ h => h) (Or.inr ⟨by rfl, rfl⟩) hHeld ?_
      try simp only [Act.put, List.getElem_toArray, List.getElem_cons_succ, List.getElem_cons_zero, List.setIfInBounds_toArray, List.set_cons_zero, List.set_cons_succ]
      refine wpAnyH_ready (rs := [3]) (by kernel_rfl) (by simp) ?_
      refine AllReadyH.cons rfl (fun K hK => ?_) AllReadyH.nil
      try rw [hW6]; go_simp; go_at_call 26; refine (say24_any w.heap.size (t1) (u1) c (-1) 230 _ hTd.rep hSd.le hlen).mono ?_; rintro en wx ⟨rA, rc, rfl, hoR, hgR⟩; have hRow := rpRow_of hTd.rep; have hS := hSd.grow hgR hRow; have hB1 := hBd.grow hSd.le hgR hRow; have hT1 := file_said hTd hoR hgR; try go_wp2_with fail
      refine hK.out _ _ ?_ (fun hHeld => ?_)
      · (try dsimp only); first | done | ((first | exact hS | (rw [hW6]; exact hSd) | skip))
      clear hK K
      try simp only [Act.put, List.getElem_toArray, List.getElem_cons_succ, List.getElem_cons_zero, List.setIfInBounds_toArray, List.set_cons_zero, List.set_cons_succ]
      refine wpAnyH_ready (rs := [4]) (by kernel_rfl) (by simp) ?_
      refine AllReadyH.cons rfl (fun K hK => ?_) AllReadyH.nil
      go_simp; go_at_call 25; refine (ends24_any (b1) (a1) ((t1).say c (-1) 230) ({ u1 with rA := rA, rc := rc }) _).mono ?_; rintro en wz ⟨rfl, hbN⟩; have hS := hHeld.below hbN; have hB3 := hB1.below hHeld.le hbN; have hT3 := ends_tn (b := b1) (hT1.below hbN); try go_wp2_with fail
      refine hK.out _ _ ?_ (fun hHeld => ?_)
      · (try dsimp only); first | done | ((first | exact hS | (rw [hW6]; exact hSd) | skip))
      clear hK K
      try simp only [Act.put, List.getElem_toArray, List.getElem_cons_succ, List.getElem_cons_zero, List.setIfInBounds_toArray, List.set_cons_zero, List.set_cons_succ]
      first
       | (refine wpAnyH_take (i := 5) (v := ?_) rfl (by kernel_rfl) (by kernel_rfl) (by kernel_rfl) (fun _ _ _ h => h) (Or.inl ⟨by rfl, ?_⟩) hHeld ?_; rotate_left; (intro wq hSw; (try dsimp only at hSw); go_simp; done))
       | (refine wpAnyH_take (i := 5) (v := ?_) rfl (by kernel_rfl) (by kernel_rfl) (by kernel_rfl) (fun _ _ _ h => h) (Or.inl ⟨by rfl, ?_⟩) hHeld ?_; rotate_left; (intro wq hSw; (try dsimp only at hSw); go_simp; with_reducible rfl))
       | refine wpAnyH_take (i := 5) (v := undef) rfl (by kernel_rfl) (by kernel_rfl) (by kernel_rfl) (fun _ _ _ h => h) (Or.inr ⟨by rfl, rfl⟩) hHeld ?_
      try simp only [Act.put, List.getElem_toArray, List.getElem_cons_succ, List.getElem_cons_zero, List.setIfInBounds_toArray, List.set_cons_zero, List.set_cons_succ]
      first
       | (refine wpAnyH_take (i := 6) (v := ?_) rfl (by kernel_rfl) (by kernel_rfl) (by kernel_rfl) (fun _ _ _ h => h) (Or.inl ⟨by rfl, ?_⟩) hHeld ?_; rotate_left; (intro wq hSw; (try dsimp only at hSw); go_simp; done))
       | (refine wpAnyH_take (i := 6) (v := ?_) rfl (by kernel_rfl) (by kernel_rfl) (by kernel_rfl) (fun _ _ _ h => h) (Or.inl ⟨by rfl, ?_⟩) hHeld ?_; rotate_left; (intro wq hSw; (try dsimp only at hSw); go_simp; with_reducible rfl))
       | refine wpAnyH_take (i := 6) (v := undef) rfl (by kernel_rfl) (by kernel_rfl) (by kernel_rfl) (fun _ _ _ h => h) (Or.inr ⟨by rfl, rfl⟩) hHeld ?_
      try simp only [Act.put, List.getElem_toArray, List.getElem_cons_succ, List.getElem_cons_zero, List.setIfInBounds_toArray, List.set_cons_zero, List.set_cons_succ]
      refine wpAnyH_ready (rs := [7]) (by kernel_rfl) (by simp) ?_
      refine AllReadyH.cons rfl (fun K hK => ?_) AllReadyH.nil
      obtain ⟨z, hz, hzs⟩ := hHeld.z1; refine step_storeRow (by rfl) 30 _ _ rfl (w.heap.size + 1) (bkCells ((b1).endsB ((t1).say c (-1) 230)).1 (a1)) rfl rfl 30 _ hz (by kernel_rfl) hzs (by kernel_rfl) ?_; obtain ⟨hS, hr1⟩ := hHeld.row1 (bkCells ((b1).endsB ((t1).say c (-1) 230)).1 (a1)) rfl; have sd7 := hHeld.side1 (bkCells ((b1).endsB ((t1).say c (-1) 230)).1 (a1))
      refine hK.out _ _ ?_ (fun hHeld => ?_)
      · (try dsimp only); first | done | ((first | exact hS | (rw [hW6]; exact hSd) | skip))
      clear hK K
      try simp only [Act.put, List.getElem_toArray, List.getElem_cons_succ, List.getElem_cons_zero, List.setIfInBounds_toArray, List.set_cons_zero, List.set_cons_succ]
      refine wpAnyH_ready (rs := [8]) (by kernel_rfl) (by simp) ?_
      refine AllReadyH.cons rfl (fun K hK => ?_) AllReadyH.nil
      obtain ⟨z, hz, hzs⟩ := hHeld.z2; refine step_storeRow (by rfl) 40 _ _ rfl (w.heap.size + 2) (tnCells ((b1).endsB ((t1).say c (-1) 230)).2 ({ u1 with rA := rA, rc := rc })) rfl rfl 40 _ hz (by kernel_rfl) hzs (by kernel_rfl) ?_; obtain ⟨hS, hr2⟩ := hHeld.row2 (tnCells ((b1).endsB ((t1).say c (-1) 230)).2 ({ u1 with rA := rA, rc := rc })) rfl; have sd8 := hHeld.side2 (tnCells ((b1).endsB ((t1).say c (-1) 230)).2 ({ u1 with rA := rA, rc := rc }))
      refine hK.out _ _ ?_ (fun hHeld => ?_)
      · (try dsimp only); first | done | ((first | exact hS | (rw [hW6]; exact hSd) | skip))
      clear hK K
      try simp only [Act.put, List.getElem_toArray, List.getElem_cons_succ, List.getElem_cons_zero, List.setIfInBounds_toArray, List.set_cons_zero, List.set_cons_succ]
      refine wpAnyH_done (by kernel_rfl) ?_ _
      skip
      go_wp2_with fail
      refine bodyPost_ret (results_cell_cell Try.results8 _ _ (w.heap.size + 1) (w.heap.size + 2) _ _ (bkCells ((b1).endsB ((t1).say c (-1) 230)).1 (a1)) (tnCells ((b1).endsB ((t1).say c (-1) 230)).2 ({ u1 with rA := rA, rc := rc })) _ _ _ _ rfl ((setRow_other _ _ _ _ (by omega)).trans hr1) Try.underlying30 rfl (by kernel_rfl) rfl hr2 Try.underlying40 rfl (by kernel_rfl)) rfl ?_
      rw [HQ.out]
      exact ⟨a1, _, rfl, (hB3.side sd7).side sd8, ⟨_, hb, (hT3.side sd7).side sd8⟩, hHeld.bel⟩
    · have HQ := Lib.hid (HQ3.out.trans (if_neg hfull))
      have d2 : decide (b1.cf.2.2.1 ≤ (b1.wait.length : Int)) = false := decide_eq_false hfull
      clear HQ3 hfull hlen1
      go_wp2_with fail
      refine (with24_any a1.wA b1.wait.length a1.wc W5.heap.size b1.wait c W5 (hBk5.wai h5.le) (Nat.le_refl _) (by omega)).mono ?_
      rintro e W7 ⟨A7, c7, rfl, ho7, hb7⟩
      have h7 := h5.below hb7
      have j11 : W7.cell? ⟨w.heap.size, 11, none⟩ = some (.slice a1.wA b1.wait.length a1.wc) := by rw [cell_of_row _ _ 11 _ _ _ h7.rb]; rfl
      have f11 := rw_free h7.rb 11
      have sd := h7.sideB 11 (.slice A7 (b1.wait.length + 1) c7)
      have h8 := h7.setB 11 (.slice A7 (b1.wait.length + 1) c7)
      have hl8 := (lsOk_I (base := base) (Ow.rebase ho7 h5.le)).side sd
      have hc8 : (b1.wait ++ [c]).length ≤ c7 := by have := ho7.2.1; simp; omega
      have hB8 := (hBk5.below h5.le hb7).side sd
      have hT8 := (hTn5.below hb7).side sd
      obtain ⟨b2, hb2⟩ : ∃ x : Bok, x = { b1 with wait := b1.wait ++ [c] } := ⟨_, rfl⟩
      obtain ⟨a2, ha2⟩ : ∃ x : BokA, x = { a1 with wA := A7, wc := c7 } := ⟨_, rfl⟩
      have eB : (bkCells b1 a1).setIfInBounds 11 (.slice A7 (b1.wait.length + 1) c7) = bkCells b2 a2 := by rw [hb2, ha2]; unfold bkCells; simp
      rw [eB] at h8
      go_upto_region 13 with fail
      obtain ⟨V5, hV5⟩ : ∃ x, W7.setCell ⟨w.heap.size, 11, none⟩ (.slice A7 (b1.wait.length + 1) c7) = x := ⟨_, rfl⟩
      rw [hV5] at h8 hl8 hB8 hT8 ⊢
      have hBk8 : BkOk V5 base b2 a2 := by rw [hb2, ha2]; exact ⟨hB8.idle, hB8.leased, hl8, hB8.ic, hB8.lc, hc8⟩
      have q4 : b2.refs = b1.refs := by rw [hb2]
      have HQ4 : Hid (b.ask c now dead = ({ b2 with refs := b2.refs + 1 } : Bok).endsB t1) := Lib.hid (by rw [HQ.out, hb2])
      have hrn2 : 0 ≤ b2.refs ∧ b2.refs ≤ 1099511627776 := by rw [q4]; exact hrn1
      clear HQ hV5 hl8 hB8 eB hb2 ha2 sd h7 j11 f11 hc8 ho7 hb7 k11 k2 h5 hBk5 hTn5 q4 hrn1
      have m12 : V5.cell? ⟨w.heap.size, 12, none⟩ = some (.int .i64 b2.race) := by rw [cell_of_row _ _ 12 _ _ _ h8.rb]; rfl
      have m13 : V5.cell? ⟨w.heap.size, 13, none⟩ = some (.bool b2.cut) := by rw [cell_of_row _ _ 13 _ _ _ h8.rb]; rfl
      have m14 : V5.cell? ⟨w.heap.size, 14, none⟩ = some (.int .i64 b2.refs) := by rw [cell_of_row _ _ 14 _ _ _ h8.rb]; rfl
      have hbn := Below.new_ V5 (.cells #[.int .i64 c] 3)
      have h9 := h8.below hbn
      have hB9 := hBk8.below h8.le hbn
      have hT9 := hT8.below hbn
      go_wp2_with fail
      refine (join20_any b2.race b2.cut b2.refs (some ⟨V5.heap.size, 0, none⟩) 1 _ hrn2).mono ?_
      rintro e W8 ⟨rfl, hb8⟩
      have h10 := h9.below hb8
      have hB10 := hB9.below h9.le hb8
      have hT10 := hT9.below hb8
      clear m12 m13 m14 hbn h9 hB9 hT9 h8 hBk8 hT8 hb8
      have j12 : W8.cell? ⟨w.heap.size, 12, none⟩ = some (.int .i64 b2.race) := by rw [cell_of_row _ _ 12 _ _ _ h10.rb]; rfl
      have j13 : W8.cell? ⟨w.heap.size, 13, none⟩ = some (.bool b2.cut) := by rw [cell_of_row _ _ 13 _ _ _ h10.rb]; rfl
      have j14 : W8.cell? ⟨w.heap.size, 14, none⟩ = some (.int .i64 b2.refs) := by rw [cell_of_row _ _ 14 _ _ _ h10.rb]; rfl
      have g12 := rw_free h10.rb 12
      have g13 := rw_free h10.rb 13
      have g14 := rw_free h10.rb 14
      have s1 := h10.sideB 12 (.int .i64 b2.race)
      have h11 := h10.setB 12 (.int .i64 b2.race)
      have s2 := h11.sideB 13 (.bool b2.cut)
      have h12 := h11.setB 13 (.bool b2.cut)
      have s3 := h12.sideB 14 (.int .i64 (b2.refs + 1))
      have h13 := h12.setB 14 (.int .i64 (b2.refs + 1))
      have hB13 := ((hB10.side s1).side s2).side s3
      have hT13 := ((hT10.side s1).side s2).side s3
      obtain ⟨b3, hb3⟩ : ∃ x : Bok, x = { b2 with refs := b2.refs + 1 } := ⟨_, rfl⟩
      have eB : (((bkCells b2 a2).setIfInBounds 12 (.int .i64 b2.race)).setIfInBounds 13 (.bool b2.cut)).setIfInBounds 14 (.int .i64 (b2.refs + 1)) = bkCells b3 a2 := by rw [hb3]; unfold bkCells; simp
      rw [eB] at h13
      unfold fl
      go_upto_region 14 with fail
      obtain ⟨W5', hW5⟩ : ∃ x, ((W8.setCell ⟨w.heap.size, 12, none⟩ (.int .i64 b2.race)).setCell ⟨w.heap.size, 13, none⟩ (.bool b2.cut)).setCell ⟨w.heap.size, 14, none⟩ (.int .i64 (b2.refs + 1)) = x := ⟨_, rfl⟩
      rw [hW5] at h13 hB13 hT13 ⊢
      have hBk13 : BkOk W5' base b3 a2 := by rw [hb3]; exact ⟨hB13.idle, hB13.leased, hB13.wait, hB13.ic, hB13.lc, hB13.wc⟩
      rw [← hb3] at HQ4
      have HQQ := Lib.hid HQ4.out
      clear HQ4 hW5 hB13 eB hb3 s1 s2 s3 h12 h11 h10 j12 j13 j14 g12 g13 g14 hB10 hT10
      have h5 := h13
      have hBk5 := hBk13
      have hTn5 := hT13
      clear h13 hBk13 hT13
      have hb5 := h5.rb
      have ht5 := h5.rt
      go_wp2_with (first | (refine wpList_load_row rfl 30 _ rfl w.heap.size rfl 30 _ _ _ hb5 Try.underlying30 rfl (by kernel_rfl) ?_) | (refine wpList_load_row rfl 40 _ rfl (w.heap.size + 3) rfl 40 _ _ _ ht5 Try.underlying40 rfl (by kernel_rfl) ?_))
      refine (ends24_any (b3) (a2) (t1) (u1) W5').mono ?_
      rintro en W6 ⟨rfl, hB6⟩
      have h6 := h5.below hB6
      have hBk6 := hBk5.below h5.le hB6
      have hTn6 := hTn5.below hB6
      obtain ⟨z2, hz2, hs2⟩ := h6.z1
      obtain ⟨z3, hz3, hs3⟩ := h6.z2
      have h7 := (h6.row1 (bkCells ((b3).endsB (t1)).1 (a2)) rfl)
      have sd7 := h6.side1 (bkCells ((b3).endsB (t1)).1 (a2))
      have h8 := h7.1.row2 (tnCells ((b3).endsB (t1)).2 (u1)) rfl
      have sd8 := h7.1.side2 (tnCells ((b3).endsB (t1)).2 (u1))
      have hz3' := (setRow_other W6 (w.heap.size + 1) (w.heap.size + 2) (bkCells ((b3).endsB (t1)).1 (a2)) (by omega)).trans hz3
      clear h5 hB6 hb5 ht5 hTn5 hBk5
      go_wp2_with (first | (refine wpList_store_row rfl 30 _ _ rfl (w.heap.size + 1) (bkCells ((b3).endsB (t1)).1 (a2)) rfl rfl 30 _ hz2 (by kernel_rfl) hs2 (by kernel_rfl) ?_) | (refine wpList_store_row rfl 40 _ _ rfl (w.heap.size + 2) (tnCells ((b3).endsB (t1)).2 (u1)) rfl rfl 40 _ hz3' (by kernel_rfl) hs3 (by kernel_rfl) ?_))
      refine bodyPost_ret (results_cell_cell Try.results8 _ _ (w.heap.size + 1) (w.heap.size + 2) _ _ (bkCells ((b3).endsB (t1)).1 (a2)) (tnCells ((b3).endsB (t1)).2 (u1)) _ _ _ _ rfl ((setRow_other _ _ _ _ (by omega)).trans h7.2) Try.underlying30 rfl (by kernel_rfl) rfl h8.2 Try.underlying40 rfl (by kernel_rfl)) rfl ?_
      rw [HQQ.out]
      exact ⟨a2, u1, rfl, (hBk6.side sd7).side sd8, ⟨_, hb, ((ends_tn hTn6).side sd7).side sd8⟩, h8.1.bel⟩
end Go.Proofs.Ythjanhfjehccoaa
