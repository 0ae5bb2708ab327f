/-
  What a pool's dead, spent, refuses compute. Conditions: rows of at most 900.
-/
import Derived.Test.YthjanhfjehccoaaPoolSays
namespace Go.Proofs.Ythjanhfjehccoaa
set_option linter.unusedVariables false
set_option linter.unusedSimpArgs false
open Go.RowKit

theorem PlIs.drewN [Inhabited Ex] {base g : Nat} {w : World} {x : Pol} {a : PlA} (h : PlIs base w g x a) (n : Nat) : PlIs base (w.drewN n) g x a := h.below ⟨rfl, rfl, rfl, Nat.le_refl _, fun _ _ => rfl⟩
set_option maxRecDepth 100000 in
set_option maxHeartbeats 2000000 in
theorem dead_any [Inhabited Ex] (base g : Nat) (x : Pol) (a : PlA) (s : Int) (w : World) (h : PlIs base w g x a) (hd : x.p.dead.length ≤ 1000) :
    Calls Try.prog 72 #[.pointer (some ⟨g, 0, none⟩), .int .i64 s] w fun e w' => e = .returned (.bool (x.deadB s)) ∧ w = w' := by
  have c24 : w.cell? ⟨g, 24, none⟩ = some (.slice a.dA x.p.dead.length a.dc) := h.row.cell rfl
  go_enter Try.func72, Try.ntmps72
  go_wp2_with fail
  refine (ContainsI_any a.dA x.p.dead.length a.dc w.heap.size x.p.dead s _ h.lists.at_.2.2.2 (by omega)).mono ?_
  rintro e w2 ⟨rfl, rfl⟩
  go_wp2_with fail
  go_ret
  exact ⟨rfl, rfl⟩
set_option maxRecDepth 100000 in
set_option maxHeartbeats 2000000 in
theorem spent_any [Inhabited Ex] (base g : Nat) (x : Pol) (a : PlA) (r : Re) (w : World) (h : PlIs base w g x a) (hd : x.p.dead.length ≤ 1000) :
    Calls Try.prog 64 #[.pointer (some ⟨g, 0, none⟩), .agg #[.int .i64 r.1, .int .i64 r.2]] w fun e w' => e = .returned (.bool (x.spentB r)) ∧ Below w.heap.size w w' := by
  obtain ⟨dd, hdd⟩ : ∃ b, Hid (x.deadB r.1 = b) := ⟨_, rfl⟩
  have hb0 := Below.new_ w (.cells #[.int .i64 r.1, .int .i64 r.2] 67)
  have h1 := h.below hb0
  have hS : Hid (x.spentB r = (dd || oldB r.2 x.i.cf.2.2.2.2.2.1 x.p.clock)) := by show _ = _; unfold Pol.spentB; rw [hdd.out]
  have hR : (w.alloc (.cells #[.int .i64 r.1, .int .i64 r.2] 67)).heap[w.heap.size]? = some (.cells #[.int .i64 r.1, .int .i64 r.2] 67 (0, 0)) := heap_alloc_new w _
  have z0 : (w.alloc (.cells #[.int .i64 r.1, .int .i64 r.2] 67)).cell? ⟨w.heap.size, 0, none⟩ = some (.int .i64 r.1) := by simp only [World.cell?, hR]; rfl
  have z1 : (w.alloc (.cells #[.int .i64 r.1, .int .i64 r.2] 67)).cell? ⟨w.heap.size, 1, none⟩ = some (.int .i64 r.2) := by simp only [World.cell?, hR]; rfl
  have c5 : (w.alloc (.cells #[.int .i64 r.1, .int .i64 r.2] 67)).cell? ⟨g, 5, none⟩ = some (.int .i64 x.i.cf.2.2.2.2.2.1) := h1.row.cell rfl
  have c17 : (w.alloc (.cells #[.int .i64 r.1, .int .i64 r.2] 67)).cell? ⟨g, 17, none⟩ = some (.int .i64 x.p.clock) := h1.row.cell rfl
  clear hR
  go_enter Try.func64, Try.ntmps64
  go_upto_region 1 with fail
  generalize (w.alloc (.cells #[.int .i64 r.1, .int .i64 r.2] 67)) = W at hb0 h1 z0 z1 c5 c17 ⊢
  have HD : ∀ n, Calls Try.prog 72 #[.pointer (some ⟨g, 0, none⟩), .int .i64 r.1] (W.drewN n) fun e w' => e = .returned (.bool dd) ∧ W.drewN n = w' := fun n => by
    have hq := dead_any base g x a r.1 _ (h1.drewN n) hd
    rwa [hdd.out] at hq
  cases dd
  · go_quiet ((first | (go_at_call 72; exact quiet_eq (HD _)) | (go_at_call 77; exact quiet_eq (Old_any r.2 x.i.cf.2.2.2.2.2.1 x.p.clock _))))
    go_wp2_with fail
    go_ret
    exact ⟨by rw [hS.out]; simp, ⟨hb0.os, hb0.tape, hb0.output, hb0.size, hb0.block⟩⟩
  · go_quiet ((first | (go_at_call 72; exact quiet_eq (HD _)) | (go_at_call 77; exact quiet_eq (Old_any r.2 x.i.cf.2.2.2.2.2.1 x.p.clock _))))
    go_wp2_with fail
    go_ret
    exact ⟨by rw [hS.out]; simp, ⟨hb0.os, hb0.tape, hb0.output, hb0.size, hb0.block⟩⟩
/-- What refuses tells. -/
def RefPost [Inhabited Ex] (base g : Nat) (a0 : PlA) (x y : Pol) (w : World) (e : Ending) (w' : World) : Prop := ∃ a, e = .returned (.bool x.i.closed) ∧ PlIs base w' g y a ∧ Below base w w' ∧ Carry (plOwn g a0) (plOwn g a) w w'
set_option maxRecDepth 100000 in
set_option maxHeartbeats 2000000 in
theorem refuses_any [Inhabited Ex] (base g : Nat) (x : Pol) (a : PlA) (w : World) (h : PlIs base w g x a) (hn : x.p.rep.length ≤ 900) :
    Calls Try.prog 63 #[.pointer (some ⟨g, 0, none⟩)] w fun e w' => RefPost base g a x (if x.i.closed = true then x.says x.p.caller (-1) 240 else x) w e w' := by
  have c14 : w.cell? ⟨g, 14, none⟩ = some (.bool x.i.closed) := h.row.cell rfl
  have c19 : w.cell? ⟨g, 19, none⟩ = some (.int .i64 x.p.caller) := h.row.cell rfl
  obtain ⟨cl, hcl⟩ : ∃ b, Hid (x.i.closed = b) := ⟨_, rfl⟩
  rw [hcl.out] at c14 ⊢
  have hB : Below base w w := Below.refl _ _
  have hCy : Carry (plOwn g a) (plOwn g a) w w := carry_below (Below.refl _ _)
  go_enter Try.func63, Try.ntmps63
  cases cl
  · rw [if_neg (by simp)]
    go_wp2_with fail
    go_ret
    exact ⟨a, ret_bool hcl.out.symm, h, hB, hCy⟩
  · rw [if_pos rfl]
    go_wp2_with fail
    refine (says_any base g x a x.p.caller (-1) 240 _ h hn).mono ?_
    rintro e w2 ⟨a2, rfl, h2, hb2⟩
    have d14 : w2.cell? ⟨g, 14, none⟩ = some (.bool (x.says x.p.caller (-1) 240).i.closed) := h2.row.cell rfl
    have e14 : (x.says x.p.caller (-1) 240).i.closed = true := hcl.out
    rw [e14] at d14
    clear c14 c19 e14
    go_wp2_with fail
    go_ret
    exact ⟨a2, ret_bool hcl.out.symm, h2, hb2⟩
end Go.Proofs.Ythjanhfjehccoaa
