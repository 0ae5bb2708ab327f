/-
  Lists of a pool laid anew; what a pool's quit computes. Conditions: rows of at most 900.
-/
import Derived.Test.YthjanhfjehccoaaPoolOld
import Derived.Test.YthjanhfjehccoaaLineRef2p
namespace Go.Proofs.Ythjanhfjehccoaa
set_option linter.unusedVariables false
set_option linter.unusedSimpArgs false
open Go.RowKit

theorem ow_none {w : World} {base k n c : Nat} {e : TypeId} {A : Option Addr} {xs : List Value} (h : Ow w base e k A n c xs) (hr : rowOf A c = none) : c = 0 := by
  rcases h.2.2.2 with h0 | ⟨q, cur, e2, _⟩
  · exact h0
  · rw [e2] at hr
    unfold rowOf at hr
    split at hr
    · assumption
    · cases hr
theorem ow_capA {w : World} {base k n c : Nat} {e : TypeId} {A : Option Addr} {xs : List Value} (h : Ow w base e k A n c xs) : A = none → c = 0 := fun e => by
  rcases h.2.2.2 with h0 | ⟨q, cur, e2, _⟩
  · exact h0
  · rw [e] at e2; cases e2
theorem stay_ow {w : World} {B k n c : Nat} {e : TypeId} {A : Option Addr} {xs : List Value} {own : List Nat} (h : Ow w B e k A n c xs) (hno : ∀ q ∈ own, q < B) : Stay (fun b => b ∉ own) w (fun w'' => Sl w'' w''.heap.size k A n xs) := by
  cases hr : rowOf A c with
  | none =>
    have hc := ow_none h hr
    have hn : n = 0 := by have := h.2.1; omega
    have : xs = [] := List.eq_nil_of_length_eq_zero (by rw [h.1, hn, Nat.zero_mul])
    rw [hn, this]
    exact fun w'' _ _ => Sl.nil_ _ _ _ _
  | some q => exact stay_sl h hr fun hq => by have := (Ow.row h q hr).1; have := hno q hq; omega
section
variable {base g B m c : Nat} {w : World} {x : Pol} {a : PlA} {A : Option Addr}
theorem PlIs.setLine [Inhabited Ex] {l : List Int} (h : PlIs base w g x a) (ho : OwI w B 3 A m c l) (hno : ∀ q ∈ plOwn g a, q < B) :
    PlIs base (w.setCell ⟨g, 11, none⟩ (.slice A m c)) g { x with i := { x.i with line := l } } { a with lA := A, lc := c } ∧ Below base w (w.setCell ⟨g, 11, none⟩ (.slice A m c)) ∧ Carry (plOwn g a) (plOwn g { a with lA := A, lc := c }) w (w.setCell ⟨g, 11, none⟩ (.slice A m c)) := by
  have hlm : l.length = m := ho.len
  refine h.store 11 _ (by unfold plCells; simp [hlm]) rfl rfl rfl rfl rfl rfl (fun w'' hs hb => ?_) ⟨h.caps.1, h.caps.2.1, ⟨by show l.length ≤ c; rw [hlm]; exact ho.2.1, ow_capA ho⟩⟩
  have old := h.lists w'' hs hb
  refine ⟨old.1, old.2.1, ?_, old.2.2.2⟩
  show Ints w'' w''.heap.size A l.length l
  rw [hlm]
  exact stay_ow ho hno w'' hs hb
theorem PlIs.setOut [Inhabited Ex] {l : List Int} (h : PlIs base w g x a) (ho : OwI w B 3 A m c l) (hno : ∀ q ∈ plOwn g a, q < B) :
    PlIs base (w.setCell ⟨g, 10, none⟩ (.slice A m c)) g { x with i := { x.i with out := l } } { a with oA := A, oc := c } ∧ Below base w (w.setCell ⟨g, 10, none⟩ (.slice A m c)) ∧ Carry (plOwn g a) (plOwn g { a with oA := A, oc := c }) w (w.setCell ⟨g, 10, none⟩ (.slice A m c)) := by
  have hlm : l.length = m := ho.len
  refine h.store 10 _ (by unfold plCells; simp [hlm]) rfl rfl rfl rfl rfl rfl (fun w'' hs hb => ?_) ⟨h.caps.1, ⟨by show l.length ≤ c; rw [hlm]; exact ho.2.1, ow_capA ho⟩, h.caps.2.2⟩
  have old := h.lists w'' hs hb
  refine ⟨old.1, ?_, old.2.2.1, old.2.2.2⟩
  show Ints w'' w''.heap.size A l.length l
  rw [hlm]
  exact stay_ow ho hno w'' hs hb
end
theorem plPost_from [Inhabited Ex] {base g : Nat} {a0 a1 : PlA} {y : Pol} {w w1 : World} {e : Ending} {w' : World} (h : PlPost base g a1 y w1 e w') (hb : Below base w w1) (hc : Carry (plOwn g a0) (plOwn g a1) w w1) : PlPost base g a0 y w e w' := by
  obtain ⟨a2, h1, h2, h3, h4⟩ := h
  exact ⟨a2, h1, h2, hb.trans h3, hc.trans h4⟩
set_option maxRecDepth 100000 in
set_option maxHeartbeats 4000000 in
theorem quit_any [Inhabited Ex] (base g : Nat) (x : Pol) (a : PlA) (w : World) (h : PlIs base w g x a) (hn : x.p.rep.length ≤ 900) (hl : x.i.line.length ≤ 1000) :
    Calls Try.prog 50 #[.pointer (some ⟨g, 0, none⟩)] w fun en w' => PlPost base g a x.quit w en w' := by
  have c11 : w.cell? ⟨g, 11, none⟩ = some (.slice a.lA x.i.line.length a.lc) := h.row.cell rfl
  have c19 : w.cell? ⟨g, 19, none⟩ = some (.int .i64 x.p.caller) := h.row.cell rfl
  have hbase : base ≤ w.heap.size := Nat.le_trans h.gb (Nat.le_of_lt h.row.lt)
  by_cases hm : x.p.caller ∈ x.i.line
  · obtain ⟨k, hk, hkl, hke, _, _⟩ := placeOf_mem hm
    have hy : x.quit = ({ x with i := { x.i with line := x.i.line.erase x.p.caller } } : Pol).says x.p.caller (-1) 191 := by unfold Pol.quit; rw [if_pos hm]
    rw [hy]
    have HE := Lib.hid hke
    have hkn : decide ((0 : Int) ≤ (k : Int)) = true := decide_eq_true (by omega)
    have HI : ∀ nq, Calls Try.prog 69 #[.slice a.lA x.i.line.length a.lc, .int .i64 x.p.caller] (w.drewN nq) fun e w' => e = .returned (.int .i64 k) ∧ w.drewN nq = w' := fun nq => by
      have := IndexI_any a.lA x.i.line.length a.lc (w.drewN nq).heap.size x.i.line x.p.caller (w.drewN nq) (h.drewN nq).lists.at_.2.2.1 (by omega)
      rwa [hk] at this
    clear hke hm hy hk
    go_enter Try.func50, Try.ntmps50
    go_upto_region 0 with fail
    go_quiet ((go_at_call 69; exact quiet_eq (HI _)))
    rename_i nq
    go_upto_region 2 with fail
    have h0 := h.drewN nq
    have hB0 : Below base w (w.drewN nq) := ⟨rfl, rfl, rfl, Nat.le_refl _, fun _ _ => rfl⟩
    have hC0 : Carry (plOwn g a) (plOwn g a) w (w.drewN nq) := carry_below ⟨rfl, rfl, rfl, Nat.le_refl _, fun _ _ => rfl⟩
    clear c11 c19 h HI
    obtain ⟨W, hW⟩ : ∃ W, w.drewN nq = W := ⟨_, rfl⟩
    rw [hW] at h0 hB0 hC0 ⊢
    clear hW
    have c11 : W.cell? ⟨g, 11, none⟩ = some (.slice a.lA x.i.line.length a.lc) := h0.row.cell rfl
    have hbW : base ≤ W.heap.size := Nat.le_trans h0.gb (Nat.le_of_lt h0.row.lt)
    go_wp2_with fail
    refine (CloneI_any a.lA x.i.line.length a.lc _ x.i.line W h0.lists.at_.2.2.1 (by omega)).mono ?_
    rintro e w1 ⟨A1, c1, rfl, ho1, hb1⟩
    have h1 := h0.below hb1
    go_wp2_with fail
    refine (DeleteI_any W.heap.size A1 x.i.line.length c1 k x.i.line w1 ho1 hkl (by omega)).mono ?_
    rintro e w2 ⟨rfl, ho2, hg2⟩
    have hno : ∀ q ∈ plOwn g a, q < W.heap.size := own_lt h0
    have hr2 : ∀ q, rowOf A1 c1 = some q → q ∉ plOwn g a ∧ W.heap.size ≤ q := fun q hq => ⟨fun hin => by have := (Ow.row ho1 q hq).1; have := hno q hin; omega, (Ow.row ho1 q hq).1⟩
    obtain ⟨h2, hC2⟩ := PlIs.regrow h0 (carry_below hb1) h1 (fun _ hl => hl) hg2 hr2
    have hb2 : Below base W w2 := (hb1.mono hbW).grown hg2 (by have := hb1.size; omega) (fun q hq => Nat.le_trans hbW (hr2 q hq).2)
    rw [HE.out] at ho2
    obtain ⟨h3, hb3, hC3⟩ := h2.setLine ho2 hno
    have f11 := h2.row.free 11
    have d11 := h2.row.cell (i := 11) rfl
    have e19 : (w2.setCell ⟨g, 11, none⟩ (.slice A1 (x.i.line.length - 1) c1)).cell? ⟨g, 19, none⟩ = some (.int .i64 x.p.caller) := h3.row.cell rfl
    clear c11 hr2 ho2 hg2 ho1
    go_wp2_with fail
    refine (says_any base g _ _ x.p.caller (-1) 191 _ h3 hn).mono ?_
    rintro en w4 ⟨a4, rfl, h4, hb4, hC4⟩
    go_wp2_with fail
    go_end0
    exact ⟨a4, rfl, h4, ((hB0.trans hb2).trans hb3).trans hb4, ((hC0.trans hC2).trans hC3).trans hC4⟩
  · have hk := placeOf_miss hm
    have hy : x.quit = x := by unfold Pol.quit; rw [if_neg hm]
    rw [hy]
    have HI : ∀ nq, Calls Try.prog 69 #[.slice a.lA x.i.line.length a.lc, .int .i64 x.p.caller] (w.drewN nq) fun e w' => e = .returned (.int .i64 (-1)) ∧ w.drewN nq = w' := fun nq => by
      have := IndexI_any a.lA x.i.line.length a.lc (w.drewN nq).heap.size x.i.line x.p.caller (w.drewN nq) (h.drewN nq).lists.at_.2.2.1 (by omega)
      rwa [hk] at this
    clear hm hy hk
    go_enter Try.func50, Try.ntmps50
    go_upto_region 0 with fail
    go_quiet ((go_at_call 69; exact quiet_eq (HI _)))
    rename_i nq
    go_wp2_with fail
    go_end0
    exact ⟨a, rfl, h.drewN nq, ⟨rfl, rfl, rfl, Nat.le_refl _, fun _ _ => rfl⟩, carry_below ⟨rfl, rfl, rfl, Nat.le_refl _, fun _ _ => rfl⟩⟩
end Go.Proofs.Ythjanhfjehccoaa
