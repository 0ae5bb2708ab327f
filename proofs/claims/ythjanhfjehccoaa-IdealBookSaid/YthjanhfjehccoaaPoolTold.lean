/-
  What a pool's told computes. Conditions: rows of at most 900.
-/
import Derived.Test.YthjanhfjehccoaaPoolSet
namespace Go.Proofs.Ythjanhfjehccoaa
set_option linter.unusedVariables false
set_option linter.unusedSimpArgs false
open Go.RowKit

set_option maxRecDepth 100000 in
set_option maxHeartbeats 4000000 in
theorem told_any [Inhabited Ex] (base g : Nat) (x : Pol) (a : PlA) (w : World) (h : PlIs base w g x a) (hn : x.p.rep.length + x.i.line.length ≤ 800) (hsn : x.p.shut.length ≤ 800) (ho : x.i.out.length ≤ 1000) (hf : x.i.free.length ≤ 1000) (hd : x.p.dead.length ≤ 1000) :
    Calls Try.prog 52 #[.pointer (some ⟨g, 0, none⟩)] w fun en w' => PlPost base g a x.told w en w' := by
  have c12 : w.cell? ⟨g, 12, none⟩ = some (.bool x.i.on) := h.row.cell rfl
  have f12 := h.row.free 12
  obtain ⟨h1, hb1, hC1⟩ := h.setOn false
  have c13 : (w.setCell ⟨g, 12, none⟩ (.bool false)).cell? ⟨g, 13, none⟩ = some (.bool x.i.cut) := h1.row.cell rfl
  have f13 := h1.row.free 13
  obtain ⟨h2, hb2, hC2⟩ := h1.setCut false
  obtain ⟨y, hy⟩ : ∃ y : Pol, Hid (y = { x with i := { x.i with on := false, cut := false } }) := ⟨_, rfl⟩
  obtain ⟨cl, hcl⟩ : ∃ b, Hid (x.i.closed = b) := ⟨_, rfl⟩
  obtain ⟨dd, hdd⟩ : ∃ b, Hid (x.deadB x.p.sock = b) := ⟨_, rfl⟩
  obtain ⟨e, he⟩ : ∃ e, Hid (x.p.e = e) := ⟨_, rfl⟩
  obtain ⟨s, hs⟩ : ∃ e, Hid (x.p.sock = e) := ⟨_, rfl⟩
  have hT : x.told = if e = 0 then (if cl = true ∨ dd = true then y.shuts [s] else y.gives s) else if e = 191 then y else y.all_ e := by
    rw [← he.out, ← hcl.out, ← hdd.out, ← hs.out, hy.out]
    rfl
  have HT := Lib.hid hT
  clear hT
  go_enter Try.func52, Try.ntmps52
  go_upto_region 1 with fail
  obtain ⟨W, hW⟩ : ∃ W, (w.setCell ⟨g, 12, none⟩ (.bool false)).setCell ⟨g, 13, none⟩ (.bool false) = W := ⟨_, rfl⟩
  rw [hW] at h2 hb2 hC2 ⊢
  have h3 : PlIs base W g y a := by rw [hy.out]; exact h2
  have hbW := hb1.trans hb2
  have hCW := hC1.trans hC2
  clear hW c12 c13 f12 f13 h1 h2 hb1 hb2 hC1 hC2
  have c22 : W.cell? ⟨g, 22, none⟩ = some (.int .i64 e) := by rw [← he.out, show x.p.e = y.p.e by rw [hy.out]]; exact h3.row.cell rfl
  have c14 : W.cell? ⟨g, 14, none⟩ = some (.bool cl) := by rw [← hcl.out, show x.i.closed = y.i.closed by rw [hy.out]]; exact h3.row.cell rfl
  have c20 : W.cell? ⟨g, 20, none⟩ = some (.int .i64 s) := by rw [← hs.out, show x.p.sock = y.p.sock by rw [hy.out]]; exact h3.row.cell rfl
  have HD : Calls Try.prog 72 #[.pointer (some ⟨g, 0, none⟩), .int .i64 s] W fun e w' => e = .returned (.bool dd) ∧ W = w' := by
    have := dead_any base g y a s W h3 (by rw [hy.out]; exact hd)
    rwa [show y.deadB s = dd by rw [← hdd.out, ← hs.out, hy.out]; rfl] at this
  have HS : Calls Try.prog 66 #[.pointer (some ⟨g, 0, none⟩), .slice (some ⟨W.heap.size, 0, none⟩) 1 1] (W.alloc (.cells #[.int .i64 s] 3)) fun en w' => PlPost base g a (y.shuts [s]) w en w' := by
    have hbN := Below.new_ W (.cells #[.int .i64 s] 3)
    have hz := shuts_any base g _ a (some ⟨W.heap.size, 0, none⟩) 1 1 (W.heap.size + 1) [s] _ (h3.below hbN) (Ints.new1 W s 3) (by rw [hy.out]; show x.p.shut.length + 1 ≤ 1000; omega)
    exact hz.mono fun e w' hp => plPost_from hp (hbW.trans (hbN.mono (Nat.le_trans h3.gb (Nat.le_of_lt h3.row.lt)))) (hCW.trans (carry_below hbN))
  have HG : Calls Try.prog 73 #[.pointer (some ⟨g, 0, none⟩), .int .i64 s] W fun en w' => PlPost base g a (y.gives s) w en w' :=
    (gives_any base g y a s W h3 (by rw [hy.out]; show x.p.rep.length ≤ 900; omega) (by rw [hy.out]; show x.p.shut.length ≤ 900; omega) (by rw [hy.out]; exact ho) (by rw [hy.out]; exact hf) (by rw [hy.out]; show x.i.line.length ≤ 1000; omega)).mono fun e w' hp => plPost_from hp hbW hCW
  have HA : Calls Try.prog 74 #[.pointer (some ⟨g, 0, none⟩), .int .i64 e] W fun en w' => PlPost base g a (y.all_ e) w en w' :=
    (all_any base g y a e W h3 (by rw [hy.out]; show x.p.rep.length + x.i.line.length ≤ 900; omega)).mono fun e w' hp => plPost_from hp hbW hCW
  by_cases h0 : e = 0
  · have HU := HT.out
    rw [if_pos h0] at HU
    have d1 : (e == 0) = true := by simp [h0]
    have d2 : decide (e = 0) = true := by simp [h0]
    have H0 := Lib.hid h0
    clear h0
    cases cl
    · cases dd
      · rw [if_neg (by simp)] at HU
        have HY := Lib.hid HU
        clear HU
        go_wp2_with fail
        refine HD.mono ?_
        rintro _ w5 ⟨rfl, rfl⟩
        go_wp2_with fail
        refine HG.mono ?_
        rintro en w6 ⟨a6, rfl, h6, hb6, hC6⟩
        go_wp2_with fail
        go_end0
        rw [HY.out]
        exact ⟨a6, rfl, h6, hb6, hC6⟩
      · rw [if_pos (by simp)] at HU
        have HY := Lib.hid HU
        clear HU
        go_wp2_with fail
        refine HD.mono ?_
        rintro _ w5 ⟨rfl, rfl⟩
        go_wp2_with fail
        refine HS.mono ?_
        rintro en w6 ⟨a6, rfl, h6, hb6, hC6⟩
        go_wp2_with fail
        go_end0
        rw [HY.out]
        exact ⟨a6, rfl, h6, hb6, hC6⟩
    · rw [if_pos (by simp)] at HU
      have HY := Lib.hid HU
      clear HU
      go_wp2_with fail
      refine HS.mono ?_
      rintro en w6 ⟨a6, rfl, h6, hb6, hC6⟩
      go_wp2_with fail
      go_end0
      rw [HY.out]
      exact ⟨a6, rfl, h6, hb6, hC6⟩
  · have HU := HT.out
    rw [if_neg h0] at HU
    have d1 : (e == 0) = false := by simp [h0]
    have d2 : decide (e = 0) = false := by simp [h0]
    clear h0
    by_cases h9 : e = 191
    · rw [if_pos h9] at HU
      have HY := Lib.hid HU
      clear HU
      have d3 : (e == 191) = true := by simp [h9]
      have d4 : decide (e = 191) = true := by simp [h9]
      have d5 : (e != 191) = false := by simp [h9]
      have H9 := Lib.hid h9
      clear h9
      go_wp2_with fail
      go_end0
      rw [HY.out]
      exact ⟨a, rfl, h3, hbW, hCW⟩
    · rw [if_neg h9] at HU
      have HY := Lib.hid HU
      clear HU
      have d3 : (e == 191) = false := by simp [h9]
      have d4 : decide (e = 191) = false := by simp [h9]
      have d5 : (e != 191) = true := by simp [h9]
      clear h9
      go_wp2_with fail
      refine HA.mono ?_
      rintro en w6 ⟨a6, rfl, h6, hb6, hC6⟩
      go_wp2_with fail
      go_end0
      rw [HY.out]
      exact ⟨a6, rfl, h6, hb6, hC6⟩
end Go.Proofs.Ythjanhfjehccoaa
