/-
  What Told of switchboardref24 computes, of a race that told a socket. Conditions: rows of at most 200.
-/
import Derived.Test.YthjanhfjehccoaaIdealBookPart3
namespace Go.Proofs.Ythjanhfjehccoaa
set_option linter.unusedVariables false
set_option linter.unusedSimpArgs false
open Go.RowKit

/-- file, of a turn that has shut nothing. -/
theorem file24_any (base : Nat) (b : Bok) (a : BokA) (t : Trn) (ta : TrnA) (sock now : Int) (w : World) (hb : base ≤ w.heap.size) (hB : BkOk w base b a) (hT : TnOk w base t ta) (hr : b.refs = b.wait.length) (hw : b.wait.length ≤ 200) (hl : b.leased.length ≤ 900) (hi : b.idle.length ≤ 900) (ht : t.rep.length ≤ 800) (hs : t.shut = []) (hc : ta.hc = 0) :
    Calls Try.prog 32 #[.agg (bkCells b a), .agg (tnCells t ta), .int .i64 sock, .int .i64 now] w fun e w' => FilePost base (rowOf ta.rA ta.rc) (b.file t sock now) w e w' := by
  cases hwl : b.wait with
  | nil => exact file24_nil base b a t ta sock now w hb hB hT hwl hi hs hc
  | cons c l => exact file24_wait base b a t ta sock now c l w hb hB hT hwl hr hw hl ht
set_option maxRecDepth 100000 in
set_option maxHeartbeats 16000000 in
theorem told24_any (b : Bok) (a : BokA) (sock now : Int) (dA : Option Addr) (dn dc : Nat) (dead : List Int) (sl : List Sc) (w : World) (base : Nat) (hb : base ≤ w.heap.size) (hB : BkOk w base b a) (hd : Ints w w.heap.size dA dn dead) (hsc : Scs w w.heap.size a.sA a.sn sl) (hr : b.refs = b.wait.length) (hw : b.wait.length ≤ 200) (hi : b.idle.length ≤ 200) (hl : b.leased.length ≤ 200) (hdn : dn ≤ 200) (hsn : a.sn ≤ 1000) :
    Calls Try.prog 11 #[.agg (bkCells b a), .int .i64 sock, .int .i64 0, .slice none 0 0, .int .i64 now, .slice dA dn dc] w fun e w' => DecPost2 base (b.told sock now dead) w e w' := by
  obtain ⟨W, hW, h0⟩ := boxesD w (bkCells b a)
  have hBW := hB.below hb h0.bel
  have hbe : b.endF = { b with race := -1, cut := false } := by unfold Bok.endF; congr 1; omega
  have HR := Lib.hid hr
  have hrn : 0 ≤ b.refs := by omega
  clear hr
  have k12 : W.cell? ⟨w.heap.size, 12, none⟩ = some (.int .i64 b.race) := by rw [cell_of_row _ _ 12 _ _ _ h0.rb]; rfl
  have k13 : W.cell? ⟨w.heap.size, 13, none⟩ = some (.bool b.cut) := by rw [cell_of_row _ _ 13 _ _ _ h0.rb]; rfl
  have k14 : W.cell? ⟨w.heap.size, 14, none⟩ = some (.int .i64 b.refs) := by rw [cell_of_row _ _ 14 _ _ _ h0.rb]; rfl
  go_enter Try.func11, Try.ntmps11
  go_upto_region 2 with fail
  change Code.wp _ _ _ _ ((((w.alloc (.cells (bkCells b a) 30)).alloc (.cells zeroBk 30)).alloc (.cells zeroTn 40)).alloc (.cells zeroTn 40))
  rw [hW]
  clear hW
  go_wp2_with fail
  refine (end20_any b.race b.cut b.refs W hrn).mono ?_
  rintro e W2 ⟨rfl, hb2⟩
  have h2 := h0.below hb2
  have hB2 := hBW.below h0.le hb2
  have j12 : W2.cell? ⟨w.heap.size, 12, none⟩ = some (.int .i64 b.race) := by rw [cell_of_row _ _ 12 _ _ _ h2.rb]; rfl
  have j13 : W2.cell? ⟨w.heap.size, 13, none⟩ = some (.bool b.cut) := by rw [cell_of_row _ _ 13 _ _ _ h2.rb]; rfl
  have j14 : W2.cell? ⟨w.heap.size, 14, none⟩ = some (.int .i64 b.refs) := by rw [cell_of_row _ _ 14 _ _ _ h2.rb]; rfl
  have g12 := rw_free h2.rb 12
  have g13 := rw_free h2.rb 13
  have g14 := rw_free h2.rb 14
  have s1 := h2.sideB 12 (.int .i64 (-1))
  have h3 := h2.setB 12 (.int .i64 (-1))
  have s2 := h3.sideB 13 (.bool false)
  have h4 := h3.setB 13 (.bool false)
  have s3 := h4.sideB 14 (.int .i64 b.refs)
  have h5 := h4.setB 14 (.int .i64 b.refs)
  have hB5 := ((hB2.side s1).side s2).side s3
  obtain ⟨b1, hb1⟩ : ∃ x : Bok, x = { b with race := -1, cut := false } := ⟨_, rfl⟩
  have eB : (((bkCells b a).setIfInBounds 12 (.int .i64 (-1))).setIfInBounds 13 (.bool false)).setIfInBounds 14 (.int .i64 b.refs) = bkCells b1 a := by rw [hb1]; unfold bkCells; simp
  rw [eB] at h5
  unfold fl
  go_upto_region 3 with fail
  obtain ⟨W3, hW3⟩ : ∃ x, ((W2.setCell ⟨w.heap.size, 12, none⟩ (.int .i64 (-1))).setCell ⟨w.heap.size, 13, none⟩ (.bool false)).setCell ⟨w.heap.size, 14, none⟩ (.int .i64 b.refs) = x := ⟨_, rfl⟩
  rw [hW3] at h5 hB5 ⊢
  have hBb : BkOk W3 base b1 a := by rw [hb1]; exact ⟨hB5.idle, hB5.leased, hB5.wait, hB5.ic, hB5.lc, hB5.wc⟩
  clear hW3 eB s1 s2 s3 h4 h3 j12 j13 j14 g12 g13 g14 h2 hB2 hb2 k12 k13 k14 hB5 h0 hBW
  have k15 : W3.cell? ⟨w.heap.size, 15, none⟩ = some (.slice a.sA a.sn a.sc) := by rw [cell_of_row _ _ 15 _ _ _ h5.rb]; rfl
  go_wp2_with fail
  refine (note0_any a.sA a.sn a.sc w.heap.size sl now W3 (Recs.below hsc h5.bel) h5.le hsn).mono ?_
  rintro e W4 ⟨⟨A4, n4, c4, rfl⟩, hb4⟩
  have h6 := h5.below hb4
  have hB6 := hBb.below h5.le hb4
  have j15 : W4.cell? ⟨w.heap.size, 15, none⟩ = some (.slice a.sA a.sn a.sc) := by rw [cell_of_row _ _ 15 _ _ _ h6.rb]; rfl
  have g15 := rw_free h6.rb 15
  have s1 := h6.sideB 15 (.slice A4 n4 c4)
  have h7 := h6.setB 15 (.slice A4 n4 c4)
  have hB7 := hB6.side s1
  obtain ⟨a1, ha1⟩ : ∃ x : BokA, x = { a with sA := A4, sn := n4, sc := c4 } := ⟨_, rfl⟩
  have eB : (bkCells b1 a).setIfInBounds 15 (.slice A4 n4 c4) = bkCells b1 a1 := by rw [ha1]; unfold bkCells; simp
  rw [eB] at h7
  go_upto_region 4 with fail
  obtain ⟨W5, hW5⟩ : ∃ x, W4.setCell ⟨w.heap.size, 15, none⟩ (.slice A4 n4 c4) = x := ⟨_, rfl⟩
  rw [hW5] at h7 hB7 ⊢
  have hBk5 : BkOk W5 base b1 a1 := by rw [ha1]; exact ⟨hB7.idle, hB7.leased, hB7.wait, hB7.ic, hB7.lc, hB7.wc⟩
  have hTn5 : TnOk W5 w.heap.size trn0 trnA0 := tnOk0 _ _
  clear hW5 eB s1 h6 hB6 hb4 j15 g15 k15 hB7 h5 hBb ha1
  have h5 := h7
  clear h7
  have hcb : b1.closed = b.closed := by rw [hb1]
  have k16 : W5.cell? ⟨w.heap.size, 16, none⟩ = some (.bool b.closed) := by rw [cell_of_row _ _ 16 _ _ _ h5.rb, ← hcb]; rfl
  have hpl := rPlace24_any dA dn dc w.heap.size dead sock W5 (hd.below h5.bel) (by omega)
  have hwr0 : b1.refs = b1.wait.length := by rw [hb1]; exact HR.out
  have HW := Lib.hid hwr0
  clear hwr0
  have hww : b1.wait.length ≤ 200 := by rw [hb1]; exact hw
  have hwl : b1.leased.length ≤ 900 := by rw [hb1]; show b.leased.length ≤ 900; omega
  have hwi : b1.idle.length ≤ 900 := by rw [hb1]; show b.idle.length ≤ 900; omega
  rw [← hb1] at hbe
  clear hb1 hcb
  cases hcl : b.closed
  · rw [hcl] at k16
    by_cases hdd : sock ∈ dead
    · obtain ⟨k, hk, _⟩ := placeOf_mem hdd
      have HQ : Hid (b.told sock now dead = b1.endsB { trn0 with shut := [sock] }) := Lib.hid (by unfold Bok.told; rw [if_pos (.inr hdd), hbe]; rfl)
      rw [hk] at hpl
      have i0 : decide ((0 : Int) ≤ (k : Int)) = true := decide_eq_true (by omega)
      clear hk hdd hcl hbe
      go_wp2_with fail
      refine hpl.mono ?_
      rintro e Wx ⟨rfl, rfl⟩
      have hbn := Below.new_ W5 (.cells #[.int .i64 sock] 3)
      have hn2 := Ints.new1 W5 sock 3
      have l1 : W5.cell? ⟨w.heap.size + 3, 1, none⟩ = some (.slice none 0 0) := by rw [cell_of_row _ _ 1 _ _ _ h5.rt]; rfl
      go_upto_region 10 with (at_builtin; refine wpList_appI _ rfl (.tmp 39) (.tmp 41) rfl W5.heap.size none 0 0 [] rfl (OwI.nil_ _ _ _ _) (W5.heap.size + 1) (some ⟨W5.heap.size, 0, none⟩) 1 1 [sock] rfl hn2 (by omega) hbn.size ?_; intro A2 c2 w2 ho3 hg3 hr3; rw [Nat.zero_add] at ho3 ⊢; have hb3 := hbn.grown hg3 hbn.size (fun g hg2 => (by simp [rowOf] at hg2)); have h3 := h5.below hb3; have j1 : w2.cell? ⟨w.heap.size + 3, 1, none⟩ = some (.slice none 0 0) := (by rw [cell_of_row _ _ 1 _ _ _ h3.rt]; rfl); have f1 := rw_free h3.rt 1)
      rw [List.nil_append] at ho3
      have hB3 := hBk5.below h5.le hb3
      have sdT := h3.sideT 1 (.slice A2 1 c2)
      have h6 := h3.setT 1 (.slice A2 1 c2)
      have ho6 := ow_side (Ow.rebase ho3 h5.le) (.inl rfl) sdT
      have hB6 := hB3.side sdT
      obtain ⟨t1, ht1⟩ : ∃ x : Trn, x = { trn0 with shut := [sock] } := ⟨_, rfl⟩
      obtain ⟨u1, hu1⟩ : ∃ x : TrnA, x = { trnA0 with hA := A2, hc := c2 } := ⟨_, rfl⟩
      have eT : (tnCells trn0 trnA0).setIfInBounds 1 (.slice A2 1 c2) = tnCells t1 u1 := by rw [ht1, hu1]; unfold tnCells trn0 trnA0; simp
      rw [eT] at h6
      obtain ⟨V5, hV5⟩ : ∃ x, w2.setCell ⟨w.heap.size + 3, 1, none⟩ (.slice A2 1 c2) = x := ⟨_, rfl⟩
      rw [hV5] at h6 ho6 hB6 ⊢
      have hTn6 : TnOk V5 w.heap.size t1 u1 := by rw [ht1, hu1]; exact ⟨OwR.nil_ _ _ _ _, ho6⟩
      rw [← ht1] at HQ
      have HQQ := Lib.hid HQ.out
      clear HQ hV5 ho6 eT ht1 hu1 sdT h3 j1 f1 hB3 ho3 hb3 hg3 hr3 hn2 hbn l1 h5 hBk5 hTn5
      obtain ⟨W5', hW5⟩ : ∃ x, V5 = x := ⟨_, rfl⟩
      rw [hW5] at h6 hB6 hTn6 ⊢
      clear hW5
      have h5 := h6
      have hBk5 := hB6
      have hTn5 := hTn6
      clear h6 hB6 hTn6
      have hb5 := h5.rb
      have ht5 := h5.rt
      go_wp2_with (first | (refine wpList_load_row rfl 30 _ rfl w.heap.size rfl 30 _ _ _ hb5 Try.underlying30 rfl (by kernel_rfl) ?_) | (refine wpList_load_row rfl 40 _ rfl (w.heap.size + 3) rfl 40 _ _ _ ht5 Try.underlying40 rfl (by kernel_rfl) ?_))
      refine (ends24_any (b1) (a1) (t1) (u1) W5').mono ?_
      rintro en W6 ⟨rfl, hB6⟩
      have h6 := h5.below hB6
      have hBk6 := hBk5.below h5.le hB6
      have hTn6 := hTn5.below hB6
      obtain ⟨z2, hz2, hs2⟩ := h6.z1
      obtain ⟨z3, hz3, hs3⟩ := h6.z2
      have h7 := (h6.row1 (bkCells ((b1).endsB (t1)).1 (a1)) rfl)
      have sd7 := h6.side1 (bkCells ((b1).endsB (t1)).1 (a1))
      have h8 := h7.1.row2 (tnCells ((b1).endsB (t1)).2 (u1)) rfl
      have sd8 := h7.1.side2 (tnCells ((b1).endsB (t1)).2 (u1))
      have hz3' := (setRow_other W6 (w.heap.size + 1) (w.heap.size + 2) (bkCells ((b1).endsB (t1)).1 (a1)) (by omega)).trans hz3
      clear h5 hB6 hb5 ht5 hTn5 hBk5
      go_wp2_with (first | (refine wpList_store_row rfl 30 _ _ rfl (w.heap.size + 1) (bkCells ((b1).endsB (t1)).1 (a1)) rfl rfl 30 _ hz2 (by kernel_rfl) hs2 (by kernel_rfl) ?_) | (refine wpList_store_row rfl 40 _ _ rfl (w.heap.size + 2) (tnCells ((b1).endsB (t1)).2 (u1)) rfl rfl 40 _ hz3' (by kernel_rfl) hs3 (by kernel_rfl) ?_))
      refine bodyPost_ret (results_cell_cell Try.results11 _ _ (w.heap.size + 1) (w.heap.size + 2) _ _ (bkCells ((b1).endsB (t1)).1 (a1)) (tnCells ((b1).endsB (t1)).2 (u1)) _ _ _ _ rfl ((setRow_other _ _ _ _ (by omega)).trans h7.2) Try.underlying30 rfl (by kernel_rfl) rfl h8.2 Try.underlying40 rfl (by kernel_rfl)) rfl ?_
      rw [HQQ.out]
      exact ⟨a1, u1, rfl, (hBk6.side sd7).side sd8, ⟨_, hb, ((ends_tn hTn6).side sd7).side sd8⟩, h8.1.bel⟩
    · have hk := placeOf_miss hdd
      have HQ : Hid (b.told sock now dead = (b1.file trn0 sock now).1.endsB (b1.file trn0 sock now).2) := Lib.hid (by unfold Bok.told; rw [if_neg (fun h => h.elim (fun h => by rw [hcl] at h; cases h) hdd), hbe])
      rw [hk] at hpl
      clear hk hdd hcl hbe
      go_wp2_with fail
      refine hpl.mono ?_
      rintro e Wx ⟨rfl, rfl⟩
      have HF := HQ
      have hb5 := h5.rb
      have ht5 := h5.rt
      have hRow5 := rpRow_of hTn5.rep
      go_wp2_with (first | (refine wpList_load_row rfl 30 _ rfl w.heap.size rfl 30 _ _ _ hb5 Try.underlying30 rfl (by kernel_rfl) ?_) | (refine wpList_load_row rfl 40 _ rfl (w.heap.size + 3) rfl 40 _ _ _ ht5 Try.underlying40 rfl (by kernel_rfl) ?_))
      refine (file24_any base b1 a1 trn0 trnA0 sock now W5 (Nat.le_trans hb h5.le) hBk5 (tn_rebase hTn5 hb) HW.out hww hwl hwi (Nat.zero_le _) rfl rfl).mono ?_
      rintro en Wf ⟨af, uf, rfl, hBf, hTf, hGf⟩
      have h5 := h5.grow hGf hRow5
      have hBk5 := hBf
      have hTn5 := hTf
      obtain ⟨q, hq⟩ : ∃ q, b1.file trn0 sock now = q := ⟨_, rfl⟩
      rw [hq] at hBk5 hTn5 HF ⊢
      clear hq hBf hTf hGf hRow5
      go_wp2_with fail
      refine (ends24_any q.1 af q.2 uf Wf).mono ?_
      rintro en W6 ⟨rfl, hB6⟩
      have h6 := h5.below hB6
      have hBk6 := hBk5.below h5.le hB6
      have hTn6 := hTn5.below hB6
      obtain ⟨z2, hz2, hs2⟩ := h6.z1
      obtain ⟨z3, hz3, hs3⟩ := h6.z2
      have h7 := (h6.row1 (bkCells (q.1.endsB q.2).1 (af)) rfl)
      have sd7 := h6.side1 (bkCells (q.1.endsB q.2).1 (af))
      have h8 := h7.1.row2 (tnCells (q.1.endsB q.2).2 (uf)) rfl
      have sd8 := h7.1.side2 (tnCells (q.1.endsB q.2).2 (uf))
      have hz3' := (setRow_other W6 (w.heap.size + 1) (w.heap.size + 2) (bkCells (q.1.endsB q.2).1 (af)) (by omega)).trans hz3
      clear h5 hB6 hb5 ht5 hTn5 hBk5
      go_wp2_with (first | (refine wpList_store_row rfl 30 _ _ rfl (w.heap.size + 1) (bkCells (q.1.endsB q.2).1 (af)) rfl rfl 30 _ hz2 (by kernel_rfl) hs2 (by kernel_rfl) ?_) | (refine wpList_store_row rfl 40 _ _ rfl (w.heap.size + 2) (tnCells (q.1.endsB q.2).2 (uf)) rfl rfl 40 _ hz3' (by kernel_rfl) hs3 (by kernel_rfl) ?_))
      refine bodyPost_ret (results_cell_cell Try.results11 _ _ (w.heap.size + 1) (w.heap.size + 2) _ _ (bkCells (q.1.endsB q.2).1 (af)) (tnCells (q.1.endsB q.2).2 (uf)) _ _ _ _ rfl ((setRow_other _ _ _ _ (by omega)).trans h7.2) Try.underlying30 rfl (by kernel_rfl) rfl h8.2 Try.underlying40 rfl (by kernel_rfl)) rfl ?_
      rw [HF.out]
      exact ⟨af, uf, rfl, (hBk6.side sd7).side sd8, ⟨_, Nat.le_refl _, ((ends_tn hTn6).side sd7).side sd8⟩, h8.1.bel⟩
  · have HQ : Hid (b.told sock now dead = b1.endsB { trn0 with shut := [sock] }) := Lib.hid (by unfold Bok.told; rw [if_pos (.inl hcl), hbe]; rfl)
    rw [hcl] at k16
    clear hcl hbe hpl
    have hbn := Below.new_ W5 (.cells #[.int .i64 sock] 3)
    have hn2 := Ints.new1 W5 sock 3
    have l1 : W5.cell? ⟨w.heap.size + 3, 1, none⟩ = some (.slice none 0 0) := by rw [cell_of_row _ _ 1 _ _ _ h5.rt]; rfl
    go_upto_region 10 with (at_builtin; refine wpList_appI _ rfl (.tmp 39) (.tmp 41) rfl W5.heap.size none 0 0 [] rfl (OwI.nil_ _ _ _ _) (W5.heap.size + 1) (some ⟨W5.heap.size, 0, none⟩) 1 1 [sock] rfl hn2 (by omega) hbn.size ?_; intro A2 c2 w2 ho3 hg3 hr3; rw [Nat.zero_add] at ho3 ⊢; have hb3 := hbn.grown hg3 hbn.size (fun g hg2 => (by simp [rowOf] at hg2)); have h3 := h5.below hb3; have j1 : w2.cell? ⟨w.heap.size + 3, 1, none⟩ = some (.slice none 0 0) := (by rw [cell_of_row _ _ 1 _ _ _ h3.rt]; rfl); have f1 := rw_free h3.rt 1)
    rw [List.nil_append] at ho3
    have hB3 := hBk5.below h5.le hb3
    have sdT := h3.sideT 1 (.slice A2 1 c2)
    have h6 := h3.setT 1 (.slice A2 1 c2)
    have ho6 := ow_side (Ow.rebase ho3 h5.le) (.inl rfl) sdT
    have hB6 := hB3.side sdT
    obtain ⟨t1, ht1⟩ : ∃ x : Trn, x = { trn0 with shut := [sock] } := ⟨_, rfl⟩
    obtain ⟨u1, hu1⟩ : ∃ x : TrnA, x = { trnA0 with hA := A2, hc := c2 } := ⟨_, rfl⟩
    have eT : (tnCells trn0 trnA0).setIfInBounds 1 (.slice A2 1 c2) = tnCells t1 u1 := by rw [ht1, hu1]; unfold tnCells trn0 trnA0; simp
    rw [eT] at h6
    obtain ⟨V5, hV5⟩ : ∃ x, w2.setCell ⟨w.heap.size + 3, 1, none⟩ (.slice A2 1 c2) = x := ⟨_, rfl⟩
    rw [hV5] at h6 ho6 hB6 ⊢
    have hTn6 : TnOk V5 w.heap.size t1 u1 := by rw [ht1, hu1]; exact ⟨OwR.nil_ _ _ _ _, ho6⟩
    rw [← ht1] at HQ
    have HQQ := Lib.hid HQ.out
    clear HQ hV5 ho6 eT ht1 hu1 sdT h3 j1 f1 hB3 ho3 hb3 hg3 hr3 hn2 hbn l1 h5 hBk5 hTn5
    obtain ⟨W5', hW5⟩ : ∃ x, V5 = x := ⟨_, rfl⟩
    rw [hW5] at h6 hB6 hTn6 ⊢
    clear hW5
    have h5 := h6
    have hBk5 := hB6
    have hTn5 := hTn6
    clear h6 hB6 hTn6
    have hb5 := h5.rb
    have ht5 := h5.rt
    go_wp2_with (first | (refine wpList_load_row rfl 30 _ rfl w.heap.size rfl 30 _ _ _ hb5 Try.underlying30 rfl (by kernel_rfl) ?_) | (refine wpList_load_row rfl 40 _ rfl (w.heap.size + 3) rfl 40 _ _ _ ht5 Try.underlying40 rfl (by kernel_rfl) ?_))
    refine (ends24_any (b1) (a1) (t1) (u1) W5').mono ?_
    rintro en W6 ⟨rfl, hB6⟩
    have h6 := h5.below hB6
    have hBk6 := hBk5.below h5.le hB6
    have hTn6 := hTn5.below hB6
    obtain ⟨z2, hz2, hs2⟩ := h6.z1
    obtain ⟨z3, hz3, hs3⟩ := h6.z2
    have h7 := (h6.row1 (bkCells ((b1).endsB (t1)).1 (a1)) rfl)
    have sd7 := h6.side1 (bkCells ((b1).endsB (t1)).1 (a1))
    have h8 := h7.1.row2 (tnCells ((b1).endsB (t1)).2 (u1)) rfl
    have sd8 := h7.1.side2 (tnCells ((b1).endsB (t1)).2 (u1))
    have hz3' := (setRow_other W6 (w.heap.size + 1) (w.heap.size + 2) (bkCells ((b1).endsB (t1)).1 (a1)) (by omega)).trans hz3
    clear h5 hB6 hb5 ht5 hTn5 hBk5
    go_wp2_with (first | (refine wpList_store_row rfl 30 _ _ rfl (w.heap.size + 1) (bkCells ((b1).endsB (t1)).1 (a1)) rfl rfl 30 _ hz2 (by kernel_rfl) hs2 (by kernel_rfl) ?_) | (refine wpList_store_row rfl 40 _ _ rfl (w.heap.size + 2) (tnCells ((b1).endsB (t1)).2 (u1)) rfl rfl 40 _ hz3' (by kernel_rfl) hs3 (by kernel_rfl) ?_))
    refine bodyPost_ret (results_cell_cell Try.results11 _ _ (w.heap.size + 1) (w.heap.size + 2) _ _ (bkCells ((b1).endsB (t1)).1 (a1)) (tnCells ((b1).endsB (t1)).2 (u1)) _ _ _ _ rfl ((setRow_other _ _ _ _ (by omega)).trans h7.2) Try.underlying30 rfl (by kernel_rfl) rfl h8.2 Try.underlying40 rfl (by kernel_rfl)) rfl ?_
    rw [HQQ.out]
    exact ⟨a1, u1, rfl, (hBk6.side sd7).side sd8, ⟨_, hb, ((ends_tn hTn6).side sd7).side sd8⟩, h8.1.bel⟩
end Go.Proofs.Ythjanhfjehccoaa
