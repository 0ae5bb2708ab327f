/-
  What a pool's back computes. Conditions: rows of at most 900.
-/
import Derived.Test.YthjanhfjehccoaaPoolSet
namespace Go.Proofs.Ythjanhfjehccoaa
set_option linter.unusedVariables false
set_option linter.unusedSimpArgs false
open Go.RowKit

set_option maxRecDepth 100000 in
set_option maxHeartbeats 4000000 in
/-- What comes behind the answer. -/
theorem backEnd_any [Inhabited Ex] (base g : Nat) (x : Pol) (a : PlA) (w : World) (h : PlIs base w g x a) (hn : x.p.rep.length ≤ 800) (hsn : x.p.shut.length ≤ 800) (ho : x.i.out.length ≤ 1000) (hf : x.i.free.length ≤ 1000) (hl : x.i.line.length ≤ 1000) (hd : x.p.dead.length ≤ 1000) :
    Calls Try.prog 49 #[.pointer (some ⟨g, 0, none⟩)] w fun en w' => PlPost base g a x.back w en w' := by
  have hR := refuses_any base g x a w h (by omega)
  obtain ⟨cl, hcl⟩ : ∃ b, Hid (x.i.closed = b) := ⟨_, rfl⟩
  rw [hcl.out] at hR
  go_enter Try.func49, Try.ntmps49
  go_wp2_with fail
  refine hR.mono ?_
  rintro e w1 ⟨a1, rfl, h1, hb1, hC1⟩
  rw [hcl.out]
  cases cl
  · rw [if_neg (by simp)] at h1
    have c10 : w1.cell? ⟨g, 10, none⟩ = some (.slice a1.oA x.i.out.length a1.oc) := h1.row.cell rfl
    have c20 : w1.cell? ⟨g, 20, none⟩ = some (.int .i64 x.p.sock) := h1.row.cell rfl
    have hbase : base ≤ w1.heap.size := Nat.le_trans h1.gb (Nat.le_of_lt h1.row.lt)
    by_cases hm : x.p.sock ∈ x.i.out
    · obtain ⟨k, hk, hkl, hke, _, _⟩ := placeOf_mem hm
      obtain ⟨kp, hkp⟩ : ∃ b, Hid (x.p.keep = b) := ⟨_, rfl⟩
      obtain ⟨dd, hdd⟩ : ∃ b, Hid (x.deadB x.p.sock = b) := ⟨_, rfl⟩
      have hy : x.back = if kp = true ∧ dd = false then (({ x with i := { x.i with out := x.i.out.erase x.p.sock } } : Pol).says x.p.caller (-1) 0).gives x.p.sock else (({ x with i := { x.i with out := x.i.out.erase x.p.sock } } : Pol).says x.p.caller (-1) 0).shuts [x.p.sock] := by
        unfold Pol.back
        rw [if_neg (by rw [hcl.out]; simp), if_pos hm, ← hkp.out, ← hdd.out]
      have HY := Lib.hid hy
      have HE := Lib.hid hke
      have hkn : decide ((k : Int) < 0) = false := decide_eq_false (by omega)
      have hel : (x.i.out.erase x.p.sock).length ≤ 1000 := Nat.le_trans (List.length_erase_le) ho
      have HI : ∀ nq, Calls Try.prog 69 #[.slice a1.oA x.i.out.length a1.oc, .int .i64 x.p.sock] (w1.drewN nq) fun e w' => e = .returned (.int .i64 k) ∧ w1.drewN nq = w' := fun nq => by
        have := IndexI_any a1.oA x.i.out.length a1.oc (w1.drewN nq).heap.size x.i.out x.p.sock (w1.drewN nq) (h1.drewN nq).lists.at_.2.1 (by omega)
        rwa [hk] at this
      clear hke hm hy hk hR
      go_upto_region 1 with fail
      go_quiet ((go_at_call 69; exact quiet_eq (HI _)))
      rename_i nq
      go_upto_region 4 with fail
      have h0 := h1.drewN nq
      have hB0 : Below base w (w1.drewN nq) := hb1.trans ⟨rfl, rfl, rfl, Nat.le_refl _, fun _ _ => rfl⟩
      have hC0 : Carry (plOwn g a) (plOwn g a1) w (w1.drewN nq) := hC1.trans (carry_below ⟨rfl, rfl, rfl, Nat.le_refl _, fun _ _ => rfl⟩)
      clear c10 c20 h1 HI hb1 hC1 hbase h
      obtain ⟨W, hW⟩ : ∃ W, w1.drewN nq = W := ⟨_, rfl⟩
      rw [hW] at h0 hB0 hC0 ⊢
      clear hW
      have c10 : W.cell? ⟨g, 10, none⟩ = some (.slice a1.oA x.i.out.length a1.oc) := h0.row.cell rfl
      have hbW : base ≤ W.heap.size := Nat.le_trans h0.gb (Nat.le_of_lt h0.row.lt)
      go_wp2_with fail
      refine (CloneI_any a1.oA x.i.out.length a1.oc _ x.i.out W h0.lists.at_.2.1 (by omega)).mono ?_
      rintro e w1 ⟨A1, c1, rfl, ho1, hb1⟩
      have h1 := h0.below hb1
      go_wp2_with fail
      refine (DeleteI_any W.heap.size A1 x.i.out.length c1 k x.i.out w1 ho1 hkl (by omega)).mono ?_
      rintro e w2 ⟨rfl, ho2, hg2⟩
      have hno : ∀ q ∈ plOwn g a1, q < W.heap.size := own_lt h0
      have hr2 : ∀ q, rowOf A1 c1 = some q → q ∉ plOwn g a1 ∧ W.heap.size ≤ q := fun q hq => ⟨fun hin => by have := (Ow.row ho1 q hq).1; have := hno q hin; omega, (Ow.row ho1 q hq).1⟩
      obtain ⟨h2, hC2⟩ := PlIs.regrow h0 (carry_below hb1) h1 (fun _ hl => hl) hg2 hr2
      have hb2 : Below base W w2 := (hb1.mono hbW).grown hg2 (by have := hb1.size; omega) (fun q hq => Nat.le_trans hbW (hr2 q hq).2)
      rw [HE.out] at ho2
      obtain ⟨h3, hb3, hC3⟩ := h2.setOut ho2 hno
      have f10 := h2.row.free 10
      have d10 := h2.row.cell (i := 10) rfl
      have e19 : (w2.setCell ⟨g, 10, none⟩ (.slice A1 (x.i.out.length - 1) c1)).cell? ⟨g, 19, none⟩ = some (.int .i64 x.p.caller) := h3.row.cell rfl
      clear c10 hr2 ho2 hg2 ho1
      go_wp2_with fail
      refine (says_any base g _ _ x.p.caller (-1) 0 _ h3 (by show x.p.rep.length ≤ 900; omega)).mono ?_
      rintro en w4 ⟨a4, rfl, h4, hb4, hC4⟩
      have hb4' := ((hB0.trans hb2).trans hb3).trans hb4
      have hC4' := ((hC0.trans hC2).trans hC3).trans hC4
      have d21 : w4.cell? ⟨g, 21, none⟩ = some (.bool x.p.keep) := h4.row.cell rfl
      have d20 : w4.cell? ⟨g, 20, none⟩ = some (.int .i64 x.p.sock) := h4.row.cell rfl
      have HD := dead_any base g _ a4 x.p.sock w4 h4 hd
      have hds : (({ x with i := { x.i with out := x.i.out.erase x.p.sock } } : Pol).says x.p.caller (-1) 0).deadB x.p.sock = dd := hdd.out
      rw [hds] at HD
      rw [hkp.out] at d21
      have hlen : (({ x with i := { x.i with out := x.i.out.erase x.p.sock } } : Pol).says x.p.caller (-1) 0).p.rep.length ≤ 900 := by unfold Pol.says; simp; omega
      clear d10 f10 e19 h2 h1 h3 hb1 hb2 hb3 hb4 hC4 hC3 hC2 hds hno hkn h0 hC0
      have HS : ∀ (wz : World) (n : Nat), wz = w4 → Calls Try.prog 66 #[.pointer (some ⟨g, 0, none⟩), .slice (some ⟨wz.heap.size, 0, none⟩) 1 1] (wz.alloc (.cells #[.int .i64 x.p.sock] 3)) fun en w' => PlPost base g a (Pol.shuts (({ x with i := { x.i with out := x.i.out.erase x.p.sock } } : Pol).says x.p.caller (-1) 0) [x.p.sock]) w en w' := by
        rintro wz _ rfl
        have hbN := Below.new_ wz (.cells #[.int .i64 x.p.sock] 3)
        have hz := shuts_any base g _ a4 (some ⟨wz.heap.size, 0, none⟩) 1 1 (wz.heap.size + 1) [x.p.sock] _ (h4.below hbN) (Ints.new1 wz x.p.sock 3) (by show x.p.shut.length + 1 ≤ 1000; omega)
        exact hz.mono fun e w' hp => plPost_from hp (hb4'.trans (hbN.mono (Nat.le_trans h4.gb (Nat.le_of_lt h4.row.lt)))) (hC4'.trans (carry_below hbN))
      cases kp
      · have HZ := HY.out
        rw [if_neg (by simp)] at HZ
        replace HY := Lib.hid HZ
        clear HZ
        go_wp2_with fail
        refine (HS _ 0 rfl).mono ?_
        rintro en w6 ⟨a6, rfl, h6, hb6, hC6⟩
        go_wp2_with fail
        go_end0
        rw [HY.out]
        exact ⟨a6, rfl, h6, hb6, hC6⟩
      · cases dd
        · have HZ := HY.out
          rw [if_pos ⟨rfl, rfl⟩] at HZ
          replace HY := Lib.hid HZ
          clear HZ
          go_wp2_with fail
          refine HD.mono ?_
          rintro e w5 ⟨rfl, rfl⟩
          go_wp2_with fail
          refine (gives_any base g _ a4 x.p.sock w4 h4 hlen (by show x.p.shut.length ≤ 900; omega) hel hf hl).mono ?_
          rintro en w6 ⟨a6, rfl, h6, hb6, hC6⟩
          go_wp2_with fail
          go_end0
          rw [HY.out]
          exact ⟨a6, rfl, h6, hb4'.trans hb6, hC4'.trans hC6⟩
        · have HZ := HY.out
          rw [if_neg (by simp)] at HZ
          replace HY := Lib.hid HZ
          clear HZ
          go_wp2_with fail
          refine HD.mono ?_
          rintro e w5 ⟨rfl, rfl⟩
          go_wp2_with fail
          refine (HS _ 0 rfl).mono ?_
          rintro en w6 ⟨a6, rfl, h6, hb6, hC6⟩
          go_wp2_with fail
          go_end0
          rw [HY.out]
          exact ⟨a6, rfl, h6, hb6, hC6⟩
    · have hk := placeOf_miss hm
      have hy : x.back = x.says x.p.caller (-1) 80 := by
        unfold Pol.back
        rw [if_neg (by rw [hcl.out]; simp), if_neg hm]
      have HY := Lib.hid hy
      have HI : ∀ nq, Calls Try.prog 69 #[.slice a1.oA x.i.out.length a1.oc, .int .i64 x.p.sock] (w1.drewN nq) fun e w' => e = .returned (.int .i64 (-1)) ∧ w1.drewN nq = w' := fun nq => by
        have := IndexI_any a1.oA x.i.out.length a1.oc (w1.drewN nq).heap.size x.i.out x.p.sock (w1.drewN nq) (h1.drewN nq).lists.at_.2.1 (by omega)
        rwa [hk] at this
      have c19 : w1.cell? ⟨g, 19, none⟩ = some (.int .i64 x.p.caller) := h1.row.cell rfl
      clear hm hy hk hR
      go_upto_region 1 with fail
      go_quiet ((go_at_call 69; exact quiet_eq (HI _)))
      rename_i nq
      go_wp2_with fail
      refine (says_any base g _ _ x.p.caller (-1) 80 _ (h1.drewN nq) (by omega)).mono ?_
      rintro en w4 ⟨a4, rfl, h4, hb4, hC4⟩
      go_wp2_with fail
      go_end0
      rw [HY.out]
      exact ⟨a4, rfl, h4, (hb1.trans (show Below base w1 (w1.drewN nq) from ⟨rfl, rfl, rfl, Nat.le_refl _, fun _ _ => rfl⟩)).trans hb4, (hC1.trans (carry_below (show Below w1.heap.size w1 (w1.drewN nq) from ⟨rfl, rfl, rfl, Nat.le_refl _, fun _ _ => rfl⟩))).trans hC4⟩
  · rw [if_pos rfl] at h1
    have hy : x.back = x.says x.p.caller (-1) 240 := by
      unfold Pol.back
      rw [if_pos hcl.out]
    have HY := Lib.hid hy
    clear hR hy
    go_wp2_with fail
    go_end0
    rw [HY.out]
    exact ⟨a1, rfl, h1, hb1, hC1⟩
end Go.Proofs.Ythjanhfjehccoaa
