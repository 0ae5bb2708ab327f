/-
  What IdealBook computes: true. Conditions: the arguments read as a book, numbers and a row.
-/
import Derived.Test.YthjanhfjehccoaaIdealBookPart10
namespace Go.Proofs.Ythjanhfjehccoaa
set_option linter.unusedVariables false
set_option linter.unusedSimpArgs false
open Go.RowKit

set_option maxRecDepth 100000 in
set_option maxHeartbeats 16000000 in
theorem IdealBook_walk0 (b : Bok) (a : BokA) (sl : List Sc) (c sock now what : Int) (keep : Bool) (dA : Option Addr) (dn dc : Nat) (dead : List Int) (W : World) (hi : OkBk W b a sl) (hd : Ints W W.heap.size dA dn dead) (hdn : dn ≤ 9223372036854775807) :
    Calls Try.prog 3 #[.agg (bkCells b a), .int .i64 c, .int .i64 sock, .int .i64 now, .int .i64 what, .bool keep, .slice dA dn dc] W fun e w' => Bk30Post W e w' := by
  have hdl := hd.len
  subst hdl
  have r1 := heap_alloc_new W (.cells (bkCells b a) 30)
  have b1 := Below.new_ W (.cells (bkCells b a) 30)
  go_enter Try.func3, Try.ntmps3
  go_upto_region 0 with fail
  rename_i K hK
  have HK := Lib.hid hK
  clear hK
  go_wp2_with fail
  refine HK.out _ _ (wp_seq_k ?_)
  clear HK
  intro K2 hK2
  change Code.wp _ _ _ _ (W.alloc (.cells (bkCells b a) 30))
  obtain ⟨W1, hW⟩ : ∃ x, W.alloc (.cells (bkCells b a) 30) = x := ⟨_, rfl⟩
  rw [hW] at r1 b1 ⊢
  clear hW
  go_cut [] (fun wx => PreQ W b a dead wx)
  case first =>
    go_wp2_with (first | (refine wpList_load_row rfl 30 _ rfl W.heap.size rfl 30 _ _ _ r1 Try.underlying30 rfl (by kernel_rfl) ?_))
    refine (great24_any b a W1).mono ?_
    rintro e W2 ⟨r, rfl, hfew, hB2⟩
    have hs1 := (Array.getElem?_eq_some_iff.1 r1).1
    have r2 := (hB2.block _ hs1).trans r1
    have hBT2 := b1.trans (hB2.mono b1.size)
    cases r
    case true =>
      clear hfew
      go_wp2_with fail
      refine (wakes_any W2).mono ?_
      rintro e Wz ⟨rfl, hBz⟩
      have hBy := (hBT2).trans (hBz.mono hBT2.size)
      go_wp2_with fail
      go_ret
      exact ⟨rfl, hBy⟩
    have hF := Lib.hid (hfew rfl)
    clear hfew
    have hBk2 := okBk_bk hi hBT2
    go_wp2_with (first | (refine wpList_load_rowG (by rfl) 30 _ rfl W.heap.size rfl 30 _ _ _ r2 Try.underlying30 rfl (by kernel_rfl) ?_))
    refine (check24_any W.heap.size b a W2 hBT2.size hBk2 (by have := hF.out.idle; omega) (by have := hF.out.leased; omega) (by have := hF.out.wait; omega)).mono ?_
    rintro e W3 ⟨⟨x, rfl, hx⟩, hB3'⟩
    have hs2 := (Array.getElem?_eq_some_iff.1 r2).1
    have r3 := (hB3'.block _ hs2).trans r2
    have hB3 := hBT2.trans (hB3'.mono hBT2.size)
    have hX := Lib.hid hx
    clear hx hBk2 hB3' hBT2 r2 r1 b1 hB2 hs1 hs2
    have hs3 := (Array.getElem?_eq_some_iff.1 r3).1
    have k11 : W3.cell? ⟨W.heap.size, 11, none⟩ = some (.slice a.wA b.wait.length a.wc) := by rw [cell_of_row _ _ 11 _ _ _ r3]; rfl
    have k12 : W3.cell? ⟨W.heap.size, 12, none⟩ = some (.int .i64 b.race) := by rw [cell_of_row _ _ 12 _ _ _ r3]; rfl
    have k13 : W3.cell? ⟨W.heap.size, 13, none⟩ = some (.bool b.cut) := by rw [cell_of_row _ _ 13 _ _ _ r3]; rfl
    by_cases hx0 : x = 0
    case neg =>
      have d1 : (x != 0) = true := by simpa using hx0
      clear hx0
      go_wp2_with fail
      refine (wakes_any W3).mono ?_
      rintro e Wz ⟨rfl, hBz⟩
      have hBy := (hB3).trans (hBz.mono hB3.size)
      go_wp2_with fail
      go_ret
      exact ⟨rfl, hBy⟩
    have hC := Lib.hid (hX.out hx0)
    subst hx0
    cases e1 : decide ((60 : Int) < (dead.length : Int))
    case true =>
      have e1' : decide (60 < dead.length) = true := by simp at e1 ⊢; omega
      go_wp2_with fail
      refine (wakes_any W3).mono ?_
      rintro e Wz ⟨rfl, hBz⟩
      have hBy := (hB3).trans (hBz.mono hB3.size)
      go_wp2_with fail
      go_ret
      exact ⟨rfl, hBy⟩
    have e1' : decide (60 < dead.length) = false := by simp at e1 ⊢; omega
    have hdd : Hid (dead.length ≤ 60) := Lib.hid (by simp at e1; omega)
    obtain ⟨n, hn⟩ : ∃ n, b.wait.length = n := ⟨_, rfl⟩
    rw [hn] at k11
    have HN := Lib.hid hn
    clear hn
    have hgood : (b.race < 0 → n = 0) → (0 ≤ b.race → b.cut = false → n ≠ 0) → Hid (BokOk b) := fun h1 h2 => Lib.hid ⟨hC.out.1, hC.out.2.1, hC.out.2.2, fun h3 h4 h5 => h2 h3 h4 (by rw [← HN.out, h5]; rfl), fun h3 => List.eq_nil_of_length_eq_zero (by rw [HN.out]; exact h1 h3)⟩
    cases e2 : decide (b.race < 0)
    case true =>
      have e2' : decide (0 ≤ b.race) = false := by simp at e2 ⊢; omega
      have hrc : Hid (b.race < 0) := Lib.hid (by simpa using e2)
      by_cases hn0 : n = 0
      case neg =>
        have d2 : decide ((0 : Int) < (n : Int)) = true := decide_eq_true (by omega)
        have d3 : decide (0 < n) = true := decide_eq_true (by omega)
        clear hn0
        go_wp2_with fail
        refine (wakes_any W3).mono ?_
        rintro e Wz ⟨rfl, hBz⟩
        have hBy := (hB3).trans (hBz.mono hB3.size)
        go_wp2_with fail
        go_ret
        exact ⟨rfl, hBy⟩
      have hg := hgood (fun _ => hn0) (fun h => by have := hrc.out; omega)
      have hP : PreQ W b a dead W3 := ⟨hg, hF, hdd, r3, hB3⟩
      subst hn0
      go_wp2_with fail
      go_meet
      case rel => exact hP
    case false =>
      have e2' : decide (0 ≤ b.race) = true := by simp at e2 ⊢; omega
      have hrc : Hid (0 ≤ b.race) := Lib.hid (by simpa using e2)
      cases hct : b.cut
      case true =>
        have hg := hgood (fun h => by have := hrc.out; omega) (fun _ h => by rw [hct] at h; cases h)
        have hP : PreQ W b a dead W3 := ⟨hg, hF, hdd, r3, hB3⟩
        rw [hct] at k13
        clear hct
        go_wp2_with fail
        go_meet
        case rel => exact hP
      case false =>
        rw [hct] at k13
        by_cases hn0 : n = 0
        case pos =>
          subst hn0
          go_wp2_with fail
          refine (wakes_any W3).mono ?_
          rintro e Wz ⟨rfl, hBz⟩
          have hBy := (hB3).trans (hBz.mono hB3.size)
          go_wp2_with fail
          go_ret
          exact ⟨rfl, hBy⟩
        have hg := hgood (fun h => by have := hrc.out; omega) (fun _ _ => hn0)
        have hP : PreQ W b a dead W3 := ⟨hg, hF, hdd, r3, hB3⟩
        have d2 : ((n : Int) == 0) = false := by simp; omega
        have d3 : decide ((n : Int) = 0) = false := decide_eq_false (by omega)
        have d4 : (n == 0) = false := by simp; omega
        clear hn0 hct
        go_wp2_with fail
        go_meet
        case rel => exact hP
  case rest =>
    obtain ⟨hok, hfw, hdd, r3, hB3⟩ := hcut
    clear r1 b1 W1
    have rp := heap_alloc_new wc (.cells (ptCells (pntB 0 c sock keep now dead) (pA dA dc)) 38)
    have bp := Below.new_ wc (.cells (ptCells (pntB 0 c sock keep now dead) (pA dA dc)) 38)
    go_upto_region 4 with (first | (refine wpList_buildAs rfl 38 _ rfl (ptCells (pntB 0 c sock keep now dead) (pA dA dc)) (by kernel_rfl) ?_) | (refine wpList_store_row rfl 38 _ _ rfl wc.heap.size (ptCells (pntB 0 c sock keep now dead) (pA dA dc)) rfl rfl 38 _ (heap_alloc_new _ _) (by kernel_rfl) (by kernel_rfl) (by kernel_rfl) ?_; rw [World.setRow_alloc_new]))
    have hs4 : (wc.alloc (.cells (ptCells (pntB 0 c sock keep now dead) (pA dA dc)) 38)).heap.size = wc.heap.size + 1 := by simp
    obtain ⟨W4, hW4⟩ : ∃ x, wc.alloc (.cells (ptCells (pntB 0 c sock keep now dead) (pA dA dc)) 38) = x := ⟨_, rfl⟩
    rw [hW4] at rp bp hs4 ⊢
    clear hW4
    have hsW := (Array.getElem?_eq_some_iff.1 r3).1
    obtain ⟨g, hg⟩ : ∃ x, wc.heap.size = x := ⟨_, rfl⟩
    have r4 := (bp.block _ hsW).trans r3
    have hB4 := hB3.trans (bp.mono hB3.size)
    rw [hg] at rp hs4 hsW ⊢
    clear bp r3 hB3 hg
    have ro := heap_alloc_new W4 (.cells zeroBk 30)
    have bo := Below.new_ W4 (.cells zeroBk 30)
    have rt := heap_alloc_new (W4.alloc (.cells zeroBk 30)) (.cells zeroTn 40)
    have bt := Below.new_ (W4.alloc (.cells zeroBk 30)) (.cells zeroTn 40)
    have hs5 : (W4.alloc (.cells zeroBk 30)).heap.size = g + 2 := by simp [hs4]
    rw [hs4] at ro
    rw [hs5] at rt
    have hBx : Bx W g (bkCells b a) (ptCells (pntB 0 c sock keep now dead) (pA dA dc)) zeroBk zeroTn ((W4.alloc (.cells zeroBk 30)).alloc (.cells zeroTn 40)) :=
      ⟨(bt.block _ (by omega)).trans ((bo.block _ (by omega)).trans r4), (bt.block _ (by omega)).trans ((bo.block _ (by omega)).trans rp), (bt.block _ (by omega)).trans ro, rt, hB4.trans ((bo.mono hB4.size).trans (bt.mono (by omega))), hsW⟩
    go_upto_region 5 with fail
    rename_i K hK
    have HK := Lib.hid hK
    clear hK
    go_wp2_with fail
    refine HK.out _ _ (wp_seq_k ?_)
    clear HK
    intro K3 hK3
    change Code.wp _ _ _ _ ((W4.alloc (.cells zeroBk 30)).alloc (.cells zeroTn 40))
    obtain ⟨W6, hW6⟩ : ∃ x, (W4.alloc (.cells zeroBk 30)).alloc (.cells zeroTn 40) = x := ⟨_, rfl⟩
    rw [hW6] at hBx ⊢
    clear hW6 ro bo rt bt hs5 r4 rp hs4 hB4 hsW
    go_cut [] (fun wx => RelQ W g b a c sock now keep dA dc dead wx)
    case first =>
      have hm := tmod6 what
      have hv6 : 0 ≤ (what.tmod 6 + 6) % 6 ∧ (what.tmod 6 + 6) % 6 < 6 := by omega
      go_upto_region 7 with fail
      obtain ⟨v, hv⟩ : ∃ v, (what.tmod 6 + 6) % 6 = v := ⟨_, rfl⟩
      rw [hv] at hv6 ⊢
      clear hv hm
      obtain rfl | rfl | rfl | rfl | rfl | rfl : v = 0 ∨ v = 1 ∨ v = 2 ∨ v = 3 ∨ v = 4 ∨ v = 5 := by omega
      · have f0 := rw_free hBx.rp 0
        have c0 : W6.cell? ⟨g, 0, none⟩ = some (.int .i8 0) := by rw [cell_of_row _ _ 0 _ _ _ hBx.rp]; rfl
        have h7 := hBx.setP 0 (.int .i8 0)
        have eP : (ptCells (pntB 0 c sock keep now dead) (pA dA dc)).setIfInBounds 0 (.int .i8 0) = ptCells (pntB 0 c sock keep now dead) (pA dA dc) := rfl
        rw [eP] at h7
        go_upto_region 9 with fail
        obtain ⟨W7, hW7⟩ : ∃ x, W6.setCell ⟨g, 0, none⟩ (.int .i8 0) = x := ⟨_, rfl⟩
        rw [hW7] at h7 ⊢
        clear hW7 f0 c0 eP hBx
        have r7 := h7.r0
        have hBk7 := okBk_bk hi h7.bel
        have hd7 : Ints W7 W7.heap.size dA dead.length dead := (hd.below h7.bel).more h7.bel.size
        have s7 := h7.bel.size
        go_wp2_with (first | (refine wpList_load_row rfl 30 _ rfl W.heap.size rfl 30 _ _ _ r7 Try.underlying30 rfl (by kernel_rfl) ?_))
        refine (ask24_any b a c now dA dead.length dc dead W7 W.heap.size s7 hBk7 hd7 hok.out.refs (by have := hfw.out.wait; omega) (by have := hfw.out.idle; omega) (by have := hfw.out.leased; omega) (by have := hdd.out; omega)).mono ?_
        rintro e W8 ⟨a', ta, rfl, hBk, ⟨B, hBB, hTn⟩, hb8⟩
        have h8 := h7.below hb8
        have hLq : LawQ b (pntB 0 c sock keep now dead) (b.ask c now dead) := LawQ.mk2 (ask_law b hok.out c sock keep now dead) ((endsB_form b).1 c now dead) ((rep_few b (by have := hfw.out.wait; omega)).1 c now dead)
        obtain ⟨q, hq⟩ : ∃ q, b.ask c now dead = q := ⟨_, rfl⟩
        rw [hq] at hBk hTn hLq ⊢
        have HL := Lib.hid hLq
        clear hq hLq
        have g1 := h8.ro
        obtain ⟨h9, sd9⟩ := h8.rowO (bkCells q.1 a')
        have g2 := h9.rt
        obtain ⟨h10, sd10⟩ := h9.rowT (tnCells q.2 ta)
        have hBk10 := (hBk.side sd9).side sd10
        have hTn10 := (hTn.side sd9).side sd10
        clear h7 r7 hBk7 hd7 h8 hb8 hBk hTn sd9 sd10 h9
        go_wp2_with (first | (refine wpList_store_row rfl 30 _ _ rfl (g + 1) (bkCells q.1 a') rfl rfl 30 _ g1 (by kernel_rfl) rfl (by kernel_rfl) ?_) | (refine wpList_store_row rfl 40 _ _ rfl (g + 2) (tnCells q.2 ta) rfl rfl 40 _ g2 (by kernel_rfl) rfl (by kernel_rfl) ?_))
        go_meet
        case rel => exact ⟨0, q, a', ta, by decide, HL.out, h10, hBk10, ⟨B, hBB, hTn10⟩⟩
      · have f0 := rw_free hBx.rp 0
        have c0 : W6.cell? ⟨g, 0, none⟩ = some (.int .i8 0) := by rw [cell_of_row _ _ 0 _ _ _ hBx.rp]; rfl
        have h7 := hBx.setP 0 (.int .i8 1)
        have eP : (ptCells (pntB 0 c sock keep now dead) (pA dA dc)).setIfInBounds 0 (.int .i8 1) = ptCells (pntB 1 c sock keep now dead) (pA dA dc) := rfl
        rw [eP] at h7
        go_upto_region 12 with fail
        obtain ⟨W7, hW7⟩ : ∃ x, W6.setCell ⟨g, 0, none⟩ (.int .i8 1) = x := ⟨_, rfl⟩
        rw [hW7] at h7 ⊢
        clear hW7 f0 c0 eP hBx
        have r7 := h7.r0
        have hBk7 := okBk_bk hi h7.bel
        have hd7 : Ints W7 W7.heap.size dA dead.length dead := (hd.below h7.bel).more h7.bel.size
        have s7 := h7.bel.size
        go_wp2_with (first | (refine wpList_load_row rfl 30 _ rfl W.heap.size rfl 30 _ _ _ r7 Try.underlying30 rfl (by kernel_rfl) ?_))
        refine (back24_any b a c sock keep now dA dead.length dc dead W7 W.heap.size s7 hBk7 hd7 hok.out.refs (by have := hfw.out.wait; omega) (by have := hfw.out.idle; omega) (by have := hfw.out.leased; omega) (by have := hdd.out; omega)).mono ?_
        rintro e W8 ⟨a', ta, rfl, hBk, ⟨B, hBB, hTn⟩, hb8⟩
        have h8 := h7.below hb8
        have hLq : LawQ b (pntB 1 c sock keep now dead) (b.back c sock keep now dead) := LawQ.mk2 (back_law b hok.out c sock keep now dead) ((endsB_form b).2.1 c sock keep now dead) ((rep_few b (by have := hfw.out.wait; omega)).2.1 c sock keep now dead)
        obtain ⟨q, hq⟩ : ∃ q, b.back c sock keep now dead = q := ⟨_, rfl⟩
        rw [hq] at hBk hTn hLq ⊢
        have HL := Lib.hid hLq
        clear hq hLq
        have g1 := h8.ro
        obtain ⟨h9, sd9⟩ := h8.rowO (bkCells q.1 a')
        have g2 := h9.rt
        obtain ⟨h10, sd10⟩ := h9.rowT (tnCells q.2 ta)
        have hBk10 := (hBk.side sd9).side sd10
        have hTn10 := (hTn.side sd9).side sd10
        clear h7 r7 hBk7 hd7 h8 hb8 hBk hTn sd9 sd10 h9
        go_wp2_with (first | (refine wpList_store_row rfl 30 _ _ rfl (g + 1) (bkCells q.1 a') rfl rfl 30 _ g1 (by kernel_rfl) rfl (by kernel_rfl) ?_) | (refine wpList_store_row rfl 40 _ _ rfl (g + 2) (tnCells q.2 ta) rfl rfl 40 _ g2 (by kernel_rfl) rfl (by kernel_rfl) ?_))
        go_meet
        case rel => exact ⟨1, q, a', ta, by decide, HL.out, h10, hBk10, ⟨B, hBB, hTn10⟩⟩
      · have f0 := rw_free hBx.rp 0
        have c0 : W6.cell? ⟨g, 0, none⟩ = some (.int .i8 0) := by rw [cell_of_row _ _ 0 _ _ _ hBx.rp]; rfl
        have h7 := hBx.setP 0 (.int .i8 2)
        have eP : (ptCells (pntB 0 c sock keep now dead) (pA dA dc)).setIfInBounds 0 (.int .i8 2) = ptCells (pntB 2 c sock keep now dead) (pA dA dc) := rfl
        rw [eP] at h7
        go_upto_region 15 with fail
        obtain ⟨W7, hW7⟩ : ∃ x, W6.setCell ⟨g, 0, none⟩ (.int .i8 2) = x := ⟨_, rfl⟩
        rw [hW7] at h7 ⊢
        clear hW7 f0 c0 eP hBx
        have r7 := h7.r0
        have hBk7 := okBk_bk hi h7.bel
        have hd7 : Ints W7 W7.heap.size dA dead.length dead := (hd.below h7.bel).more h7.bel.size
        have s7 := h7.bel.size
        go_wp2_with (first | (refine wpList_load_row rfl 30 _ rfl W.heap.size rfl 30 _ _ _ r7 Try.underlying30 rfl (by kernel_rfl) ?_))
        refine (quit24_any b a c W7 W.heap.size s7 hBk7 hok.out.refs (by have := hfw.out.wait; omega)).mono ?_
        rintro e W8 ⟨a', ta, rfl, hBk, ⟨B, hBB, hTn⟩, hb8⟩
        have h8 := h7.below hb8
        have hLq : LawQ b (pntB 2 c sock keep now dead) (b.quit c) := LawQ.mk2 (quit_law b hok.out c sock keep now dead) ((endsB_form b).2.2.1 c) ((rep_few b (by have := hfw.out.wait; omega)).2.2.1 c)
        obtain ⟨q, hq⟩ : ∃ q, b.quit c = q := ⟨_, rfl⟩
        rw [hq] at hBk hTn hLq ⊢
        have HL := Lib.hid hLq
        clear hq hLq
        have g1 := h8.ro
        obtain ⟨h9, sd9⟩ := h8.rowO (bkCells q.1 a')
        have g2 := h9.rt
        obtain ⟨h10, sd10⟩ := h9.rowT (tnCells q.2 ta)
        have hBk10 := (hBk.side sd9).side sd10
        have hTn10 := (hTn.side sd9).side sd10
        clear h7 r7 hBk7 hd7 h8 hb8 hBk hTn sd9 sd10 h9
        go_wp2_with (first | (refine wpList_store_row rfl 30 _ _ rfl (g + 1) (bkCells q.1 a') rfl rfl 30 _ g1 (by kernel_rfl) rfl (by kernel_rfl) ?_) | (refine wpList_store_row rfl 40 _ _ rfl (g + 2) (tnCells q.2 ta) rfl rfl 40 _ g2 (by kernel_rfl) rfl (by kernel_rfl) ?_))
        go_meet
        case rel => exact ⟨2, q, a', ta, by decide, HL.out, h10, hBk10, ⟨B, hBB, hTn10⟩⟩
      · have f0 := rw_free hBx.rp 0
        have c0 : W6.cell? ⟨g, 0, none⟩ = some (.int .i8 0) := by rw [cell_of_row _ _ 0 _ _ _ hBx.rp]; rfl
        have h7 := hBx.setP 0 (.int .i8 4)
        have eP : (ptCells (pntB 0 c sock keep now dead) (pA dA dc)).setIfInBounds 0 (.int .i8 4) = ptCells (pntB 4 c sock keep now dead) (pA dA dc) := rfl
        rw [eP] at h7
        go_upto_region 18 with fail
        obtain ⟨W7, hW7⟩ : ∃ x, W6.setCell ⟨g, 0, none⟩ (.int .i8 4) = x := ⟨_, rfl⟩
        rw [hW7] at h7 ⊢
        clear hW7 f0 c0 eP hBx
        have r7 := h7.r0
        have hBk7 := okBk_bk hi h7.bel
        have hd7 : Ints W7 W7.heap.size dA dead.length dead := (hd.below h7.bel).more h7.bel.size
        have s7 := h7.bel.size
        go_wp2_with (first | (refine wpList_load_row rfl 30 _ rfl W.heap.size rfl 30 _ _ _ r7 Try.underlying30 rfl (by kernel_rfl) ?_))
        refine (told24_any b a sock now dA dead.length dc dead sl W7 W.heap.size s7 hBk7 hd7 ((Recs.below hi.scars h7.bel).more h7.bel.size) hok.out.refs (by have := hfw.out.wait; omega) (by have := hfw.out.idle; omega) (by have := hfw.out.leased; omega) (by have := hdd.out; omega) (by have := hfw.out.scars; omega)).mono ?_
        rintro e W8 ⟨a', ta, rfl, hBk, ⟨B, hBB, hTn⟩, hb8⟩
        have h8 := h7.below hb8
        have hLq : LawQ b (pntB 4 c sock keep now dead) (b.told sock now dead) := LawQ.mk2 (told_law b hok.out c sock keep now dead) ((endsB_form b).2.2.2.1 sock now dead) ((rep_few b (by have := hfw.out.wait; omega)).2.2.2.1 sock now dead)
        obtain ⟨q, hq⟩ : ∃ q, b.told sock now dead = q := ⟨_, rfl⟩
        rw [hq] at hBk hTn hLq ⊢
        have HL := Lib.hid hLq
        clear hq hLq
        have g1 := h8.ro
        obtain ⟨h9, sd9⟩ := h8.rowO (bkCells q.1 a')
        have g2 := h9.rt
        obtain ⟨h10, sd10⟩ := h9.rowT (tnCells q.2 ta)
        have hBk10 := (hBk.side sd9).side sd10
        have hTn10 := (hTn.side sd9).side sd10
        clear h7 r7 hBk7 hd7 h8 hb8 hBk hTn sd9 sd10 h9
        go_wp2_with (first | (refine wpList_store_row rfl 30 _ _ rfl (g + 1) (bkCells q.1 a') rfl rfl 30 _ g1 (by kernel_rfl) rfl (by kernel_rfl) ?_) | (refine wpList_store_row rfl 40 _ _ rfl (g + 2) (tnCells q.2 ta) rfl rfl 40 _ g2 (by kernel_rfl) rfl (by kernel_rfl) ?_))
        go_meet
        case rel => exact ⟨4, q, a', ta, by decide, HL.out, h10, hBk10, ⟨B, hBB, hTn10⟩⟩
      · have f0 := rw_free hBx.rp 0
        have c0 : W6.cell? ⟨g, 0, none⟩ = some (.int .i8 0) := by rw [cell_of_row _ _ 0 _ _ _ hBx.rp]; rfl
        have h7 := hBx.setP 0 (.int .i8 5)
        have eP : (ptCells (pntB 0 c sock keep now dead) (pA dA dc)).setIfInBounds 0 (.int .i8 5) = ptCells (pntB 5 c sock keep now dead) (pA dA dc) := rfl
        rw [eP] at h7
        go_upto_region 21 with fail
        obtain ⟨W7, hW7⟩ : ∃ x, W6.setCell ⟨g, 0, none⟩ (.int .i8 5) = x := ⟨_, rfl⟩
        rw [hW7] at h7 ⊢
        clear hW7 f0 c0 eP hBx
        have r7 := h7.r0
        have hBk7 := okBk_bk hi h7.bel
        have hd7 : Ints W7 W7.heap.size dA dead.length dead := (hd.below h7.bel).more h7.bel.size
        have s7 := h7.bel.size
        go_wp2_with (first | (refine wpList_load_row rfl 30 _ rfl W.heap.size rfl 30 _ _ _ r7 Try.underlying30 rfl (by kernel_rfl) ?_))
        refine (old24_any b a now dA dead.length dc dead W7 W.heap.size s7 hBk7 hd7 (by have := hfw.out.idle; omega) (by have := hdd.out; omega)).mono ?_
        rintro e W8 ⟨a', ta, rfl, hBk, ⟨B, hBB, hTn⟩, hb8⟩
        have h8 := h7.below hb8
        have hLq : LawQ b (pntB 5 c sock keep now dead) (b.old now dead) := LawQ.mk2 (old_law b hok.out c sock keep now dead) ((endsB_form b).2.2.2.2.1 now dead) ((rep_few b (by have := hfw.out.wait; omega)).2.2.2.2.1 now dead)
        obtain ⟨q, hq⟩ : ∃ q, b.old now dead = q := ⟨_, rfl⟩
        rw [hq] at hBk hTn hLq ⊢
        have HL := Lib.hid hLq
        clear hq hLq
        have g1 := h8.ro
        obtain ⟨h9, sd9⟩ := h8.rowO (bkCells q.1 a')
        have g2 := h9.rt
        obtain ⟨h10, sd10⟩ := h9.rowT (tnCells q.2 ta)
        have hBk10 := (hBk.side sd9).side sd10
        have hTn10 := (hTn.side sd9).side sd10
        clear h7 r7 hBk7 hd7 h8 hb8 hBk hTn sd9 sd10 h9
        go_wp2_with (first | (refine wpList_store_row rfl 30 _ _ rfl (g + 1) (bkCells q.1 a') rfl rfl 30 _ g1 (by kernel_rfl) rfl (by kernel_rfl) ?_) | (refine wpList_store_row rfl 40 _ _ rfl (g + 2) (tnCells q.2 ta) rfl rfl 40 _ g2 (by kernel_rfl) rfl (by kernel_rfl) ?_))
        go_meet
        case rel => exact ⟨5, q, a', ta, by decide, HL.out, h10, hBk10, ⟨B, hBB, hTn10⟩⟩
      · have f0 := rw_free hBx.rp 0
        have c0 : W6.cell? ⟨g, 0, none⟩ = some (.int .i8 0) := by rw [cell_of_row _ _ 0 _ _ _ hBx.rp]; rfl
        have h7 := hBx.setP 0 (.int .i8 3)
        have eP : (ptCells (pntB 0 c sock keep now dead) (pA dA dc)).setIfInBounds 0 (.int .i8 3) = ptCells (pntB 3 c sock keep now dead) (pA dA dc) := rfl
        rw [eP] at h7
        go_upto_region 24 with fail
        obtain ⟨W7, hW7⟩ : ∃ x, W6.setCell ⟨g, 0, none⟩ (.int .i8 3) = x := ⟨_, rfl⟩
        rw [hW7] at h7 ⊢
        clear hW7 f0 c0 eP hBx
        have r7 := h7.r0
        have hBk7 := okBk_bk hi h7.bel
        have hd7 : Ints W7 W7.heap.size dA dead.length dead := (hd.below h7.bel).more h7.bel.size
        have s7 := h7.bel.size
        go_wp2_with (first | (refine wpList_load_row rfl 30 _ rfl W.heap.size rfl 30 _ _ _ r7 Try.underlying30 rfl (by kernel_rfl) ?_))
        refine (close24_any b a c W7 W.heap.size s7 hBk7 hok.out.refs (by have := hfw.out.wait; omega) (by have := hfw.out.idle; omega) (by have := hfw.out.leased; omega)).mono ?_
        rintro e W8 ⟨a', ta, rfl, hBk, ⟨B, hBB, hTn⟩, hb8⟩
        have h8 := h7.below hb8
        have hLq : LawQ b (pntB 3 c sock keep now dead) (b.close c) := LawQ.mk2 (close_law b hok.out c sock keep now dead) ((endsB_form b).2.2.2.2.2 c) ((rep_few b (by have := hfw.out.wait; omega)).2.2.2.2.2 c)
        obtain ⟨q, hq⟩ : ∃ q, b.close c = q := ⟨_, rfl⟩
        rw [hq] at hBk hTn hLq ⊢
        have HL := Lib.hid hLq
        clear hq hLq
        have g1 := h8.ro
        obtain ⟨h9, sd9⟩ := h8.rowO (bkCells q.1 a')
        have g2 := h9.rt
        obtain ⟨h10, sd10⟩ := h9.rowT (tnCells q.2 ta)
        have hBk10 := (hBk.side sd9).side sd10
        have hTn10 := (hTn.side sd9).side sd10
        clear h7 r7 hBk7 hd7 h8 hb8 hBk hTn sd9 sd10 h9
        go_wp2_with (first | (refine wpList_store_row rfl 30 _ _ rfl (g + 1) (bkCells q.1 a') rfl rfl 30 _ g1 (by kernel_rfl) rfl (by kernel_rfl) ?_) | (refine wpList_store_row rfl 40 _ _ rfl (g + 2) (tnCells q.2 ta) rfl rfl 40 _ g2 (by kernel_rfl) rfl (by kernel_rfl) ?_))
        go_meet
        case rel => exact ⟨3, q, a', ta, by decide, HL.out, h10, hBk10, ⟨B, hBB, hTn10⟩⟩
    case rest =>
      obtain ⟨kind, q, a', ta, hk, hL, hX, hBk, B, hBB, hTn⟩ := hcut
      have HL := Lib.hid hL
      clear hL
      refine hK3 _ _ (wp_seq_k ?_)
      clear hK3
      intro K4 hK4
      go_cut [] (fun wx => Bx W g (bkCells b a) (ptCells (pntB kind c sock keep now dead) (pA dA dc)) (bkCells (fin q) a') (tnCells q.2 ta) wx ∧ BkOk wx W.heap.size (fin q) a' ∧ TnOk wx B q.2 ta)
      case first =>
        have c2 : wc.cell? ⟨g + 2, 2, none⟩ = some (.bool q.2.start) := by rw [cell_of_row _ _ 2 _ _ _ hX.rt]; rfl
        cases hst : q.2.start
        case false =>
          have hf : Hid (fin q = q.1) := Lib.hid (by unfold fin; rw [hst]; simp)
          rw [hst] at c2
          clear hst
          go_wp2_with fail
          go_meet
          case rel => rw [hf.out]; exact ⟨hX, hBk, hTn⟩
        case true =>
          obtain ⟨hrc, hrf⟩ := HL.out.start hst
          have hf : Hid (fin q = q.1.started 7) := Lib.hid (by unfold fin; rw [if_pos hst])
          rw [hst] at c2
          clear hst
          have ro := hX.ro
          go_wp2_with (first | (refine wpList_load_row rfl 30 _ rfl (g + 1) rfl 30 _ _ _ ro Try.underlying30 rfl (by kernel_rfl) ?_))
          refine (started24_any q.1 a' wc hrc hrf).mono ?_
          rintro e Wn ⟨rfl, hbn⟩
          have h2 := hX.below hbn
          have r2 := h2.ro
          obtain ⟨h3, sd3⟩ := h2.rowO (bkCells (q.1.started 7) a')
          have hBk2 := (hBk.below hX.bel.size hbn).side sd3
          have hTn2 := (hTn.below hbn).side sd3
          have hBk3 : BkOk (Wn.setRow (g + 1) (bkCells (q.1.started 7) a')) W.heap.size (q.1.started 7) a' := okBk_started hrc hBk2
          clear hX hBk hTn hBk2 h2 hbn sd3 c2 ro
          go_wp2_with (first | (refine wpList_store_row rfl 30 _ _ rfl (g + 1) (bkCells (q.1.started 7) a') rfl rfl 30 _ r2 (by kernel_rfl) rfl (by kernel_rfl) ?_))
          go_meet
          case rel => rw [hf.out]; exact ⟨h3, hBk3, hTn2⟩
      case rest =>
        clear hX hBk hTn
        obtain ⟨hX, hBk, hTn⟩ := hcut
        obtain ⟨o, ho⟩ : ∃ o, Hid (fin q = o) := ⟨_, Lib.hid rfl⟩
        rw [ho.out] at hX hBk
        have hZ : Hid (answerP b.of (pntB kind c sock keep now dead) = ⟨o.of, wantP (pntB kind c sock keep now dead) q.2⟩) := Lib.hid (by rw [← ho.out]; exact HL.out.law)
        refine hK4 _ _ (wp_seq_k ?_)
        clear hK4
        intro K5 hK5
        obtain ⟨wa, hwa⟩ : ∃ x, x = wc := ⟨_, rfl⟩
        subst hwa
        obtain ⟨z, hz⟩ : ∃ z, Hid (answerP b.of (pntB kind c sock keep now dead) = z) := ⟨_, Lib.hid rfl⟩
        go_cut [18, 19] (fun s18 s19 wx => R27 z wa s18 s19 wx)
        case first =>
          rename_i J1 K1 hJ1 hK1
          have t0 := (Array.getElem?_eq_some_iff.1 hX.r0).1
          have tp := (Array.getElem?_eq_some_iff.1 hX.rp).1
          have hSz := hX.bel.size
          have hSd : Below wa.heap.size wa wa.drew := (Below.refl _ _).drew
          go_upto_region 27 with fail
          refine ib_r27 b a sl c sock now keep dA dc dead W wa g kind (bkCells o a') (tnCells q.2 ta) z hi hd hfw hdd hk hX hz (fun _ _ d _ _ h => by cases d <;> exact h) ?_
          intro u18 u19 u144 u145 u146 u147 u148 u149 u150 wx hR7
          first | refine hK1 _ _ (Met.intro (hJ1 _ _ ?_)) | refine Met.intro (hJ1 _ _ ?_)
          repeat apply Exists.intro
          exact ⟨hR7, rfl⟩
        case rest =>
          obtain ⟨x18, x19, a3, rfl, rfl, l18, l19, q18, q19, hRd, hBa⟩ := hcut
          have hY := hX.below hBa
          have hBk7 := hBk.below hX.bel.size hBa
          have hTn7 := hTn.below hBa
          have hsz := hX.bel.size
          clear hX hBk hTn
          have rp := hY.rp
          have r20 := heap_alloc_new wc (.cells (ptCells (pntB kind c sock keep now dead) (pA dA dc)) 38)
          have b20 := Below.new_ wc (.cells (ptCells (pntB kind c sock keep now dead) (pA dA dc)) 38)
          go_upto_region 29 with (first | (refine wpList_load_row rfl 38 _ rfl g rfl 38 _ _ _ rp Try.underlying38 rfl (by kernel_rfl) ?_) | (refine wpList_store_row rfl 38 _ _ rfl wc.heap.size (ptCells (pntB kind c sock keep now dead) (pA dA dc)) rfl rfl 38 _ (heap_alloc_new _ _) (by kernel_rfl) (by kernel_rfl) (by kernel_rfl) ?_; rw [World.setRow_alloc_new]))
          have hze : z = ⟨o.of, wantP (pntB kind c sock keep now dead) q.2⟩ := hz.out.symm.trans hZ.out
          have HK := Lib.hid (answer_keeps b.of (pntB kind c sock keep now dead))
          rw [hz.out] at HK
          subst hze
          have hIz : IdRd o.of a3 wc := ⟨hRd.1.1, hRd.1.2.1, hRd.1.2.2.1⟩
          have hPz : PtRd (wantP (pntB kind c sock keep now dead) q.2) a3 wc := ⟨hRd.1.2.2.2, hRd.2.1, hRd.2.2.1⟩
          have hbs := hY.bel.size
          have hIb : IdRd o.of (ofA a') wc := ⟨hBk7.res hbs, hBk7.lea hbs, hBk7.wai hbs⟩
          have hPc : PtRd (wantP (pntB kind c sock keep now dead) q.2) ⟨none, 0, none, 0, none, 0, dA, dc, ta.rA, ta.rc, ta.hA, ta.hc⟩ wc := ⟨(hd.below hY.bel).more hbs, hTn7.rep.recs, hTn7.shut.ints⟩
          have hfo : Hid (o.of.free.length ≤ 100000 ∧ o.of.out.length ≤ 100000 ∧ o.of.line.length ≤ 100000 ∧ PtFew (wantP (pntB kind c sock keep now dead) q.2)) := Lib.hid (by
            obtain ⟨hm, _, _, _, hl, _⟩ := HK.out
            have h1 := hfw.out.idle
            have h2 := hfw.out.leased
            have h3 := hfw.out.wait
            have h4 := hdd.out
            have h5 := HL.out.few
            have e1 : b.of.free.length = b.idle.length := rfl
            have e2 : b.of.out.length = b.leased.length := rfl
            have e3 : b.of.line.length = b.wait.length := rfl
            have hi1 : (if (pntB kind c sock keep now dead).kind = 4 ∧ (pntB kind c sock keep now dead).e = 0 then 1 else 0) ≤ 1 := by split <;> omega
            dsimp only at hm hl
            exact ⟨by omega, by omega, by omega, ⟨by show dead.length ≤ _; omega, by show q.2.rep.length ≤ _; omega, by show q.2.shut.length ≤ _; have e4 : (wantP (pntB kind c sock keep now dead) q.2).shut.length = q.2.shut.length := rfl; omega⟩⟩)
          have t18 := (Array.getElem?_eq_some_iff.1 q18).1
          have t19 := (Array.getElem?_eq_some_iff.1 q19).1
          have tx := hY.lt
          have tg := hY.hg
          have ro := hY.ro
          have rt := hY.rt
          clear hRd HK hZ hz HL hBa hBk7 hTn7
          change Code.wp _ _ _ _ (wc.alloc (.cells (ptCells (pntB kind c sock keep now dead) (pA dA dc)) 38))
          obtain ⟨V, hV⟩ : ∃ x, wc.alloc (.cells (ptCells (pntB kind c sock keep now dead) (pA dA dc)) 38) = x := ⟨_, rfl⟩
          rw [hV] at r20 b20 ⊢
          clear hV
          obtain ⟨x20, hx20⟩ : ∃ x, wc.heap.size = x := ⟨_, rfl⟩
          have rt8 := (b20.block _ (by omega)).trans rt
          have ro8 := (b20.block _ (by omega)).trans ro
          have q18' := (b20.block _ t18).trans q18
          have q19' := (b20.block _ t19).trans q19
          have hBV := hY.bel.trans (b20.mono hbs)
          have hVs := b20.size
          clear q18 q19 ro rt rp hY
          rw [hx20] at r20 t18 t19 tx hbs hVs ⊢
          have l0 : V.cell? ⟨g + 2, 0, none⟩ = some (.slice ta.rA q.2.rep.length ta.rc) := by rw [cell_of_row _ _ 0 _ _ _ rt8]; rfl
          have l1 : V.cell? ⟨g + 2, 1, none⟩ = some (.slice ta.hA q.2.shut.length ta.hc) := by rw [cell_of_row _ _ 1 _ _ _ rt8]; rfl
          have l2 : V.cell? ⟨g + 2, 2, none⟩ = some (.bool q.2.start) := by rw [cell_of_row _ _ 2 _ _ _ rt8]; rfl
          have l3 : V.cell? ⟨g + 2, 3, none⟩ = some (.bool q.2.cut) := by rw [cell_of_row _ _ 3 _ _ _ rt8]; rfl
          have x1 := rw_set r20 10 (.slice ta.rA q.2.rep.length ta.rc)
          have x2 := rw_set x1 11 (.slice ta.hA q.2.shut.length ta.hc)
          have x3 := rw_set x2 12 (.bool q.2.start)
          have x4 := rw_set x3 13 (.bool q.2.cut)
          have y0 : V.cell? ⟨x20, 10, none⟩ = some (.slice none 0 0) := by rw [cell_of_row _ _ 10 _ _ _ r20]; rfl
          have y1 : V.cell? ⟨x20, 11, none⟩ = some (.slice none 0 0) := by rw [cell_of_row _ _ 11 _ _ _ r20]; rfl
          have y2 : V.cell? ⟨x20, 12, none⟩ = some (.bool false) := by rw [cell_of_row _ _ 12 _ _ _ r20]; rfl
          have y3 : V.cell? ⟨x20, 13, none⟩ = some (.bool false) := by rw [cell_of_row _ _ 13 _ _ _ r20]; rfl
          have z0 := rw_free r20 10
          have z1 := rw_free r20 11
          have z2 := rw_free r20 12
          have z3 := rw_free r20 13
          have hSd : Below x20 V V.drew := (Below.refl _ _).drew
          refine ib_r29 V g x20 q ta tx l0 l1 l2 l3 y0 y1 y2 y3 z0 z1 z2 z3 (fun _ _ d _ _ h => by cases d <;> exact h) ?_
          intro u152 u153 u154 u155 u156 u157 u158 u159 u160 u161 u162 u163
          clear z0 z1 z2 z3 y0 y1 y2 y3 l0 l1 l2 l3
          obtain ⟨V9, hV9⟩ : ∃ x, ((((V.setCell ⟨x20, 10, none⟩ (.slice ta.rA q.2.rep.length ta.rc)).setCell ⟨x20, 11, none⟩ (.slice ta.hA q.2.shut.length ta.hc)).setCell ⟨x20, 12, none⟩ (.bool q.2.start)).setCell ⟨x20, 13, none⟩ (.bool q.2.cut)).drew = x := ⟨_, rfl⟩
          have hB9 : Below x20 V V9 := hV9 ▸ (((((Below.refl x20 V).setCell (p := ⟨x20, 10, none⟩) (Nat.le_refl x20) _).setCell (p := ⟨x20, 11, none⟩) (Nat.le_refl x20) _).setCell (p := ⟨x20, 12, none⟩) (Nat.le_refl x20) _).setCell (p := ⟨x20, 13, none⟩) (Nat.le_refl x20) _).drew
          have R20 : V9.heap[x20]? = some (.cells (ptCells (wantP (pntB kind c sock keep now dead) q.2) ⟨none, 0, none, 0, none, 0, dA, dc, ta.rA, ta.rc, ta.hA, ta.hc⟩) 38 (0, 0)) := hV9 ▸ x4
          rw [hV9]
          have hW9 : Below wc.heap.size wc V9 := b20.trans (by rw [hx20]; exact hB9)
          have hIz9 := hIz.below hW9
          have hIb9 := hIb.below hW9
          have hPz9 := hPz.below hW9
          have hPc9 := hPc.below hW9
          have R18 := (hB9.block _ t18).trans q18'
          have R19 := (hB9.block _ t19).trans q19'
          have Ro := (hB9.block _ (by omega)).trans ro8
          have hBW : Below W.heap.size W V9 := hBV.trans (hB9.mono hbs)
          have t20 := (Array.getElem?_eq_some_iff.1 R20).1
          obtain ⟨hf1, hf2, hf3, hf4⟩ := hfo.out
          clear hV9 x1 x2 x3 x4 r20 rt8 ro8 q18' q19' hBV hIz hIb hPz hPc b20 hW9 hB9 hfo hVs
          obtain ⟨pw, hpw⟩ : ∃ p, wantP (pntB kind c sock keep now dead) q.2 = p := ⟨_, rfl⟩
          obtain ⟨c20, hc20⟩ : ∃ p : PlA, ⟨none, 0, none, 0, none, 0, dA, dc, ta.rA, ta.rc, ta.hA, ta.hc⟩ = p := ⟨_, rfl⟩
          rw [hpw] at R19 R20 hPz9 hPc9 hf4
          rw [hc20] at R20 hPc9
          clear hpw hc20
          have hSd : Below V9.heap.size V9 V9.drew := (Below.refl _ _).drew
          go_upto_region 30 with fail
          refine ib_r30 V9 g x18 x19 x20 o a' a3 c20 pw R18 R19 R20 Ro hIz9 hIb9 hPz9 hPc9 hf1 hf2 hf3 hf4 (fun _ _ d _ _ h => by cases d <;> exact h) ?_
          rintro u14 u164 u165 u166 u167 u168 u169 u170 u171 u172 u173 u174 u175 u176 u177 wx rfl hHeld
          go_wp2_with fail
          go_ret
          exact ⟨rfl, hBW.trans (hHeld.mono hBW.size)⟩
end Go.Proofs.Ythjanhfjehccoaa
