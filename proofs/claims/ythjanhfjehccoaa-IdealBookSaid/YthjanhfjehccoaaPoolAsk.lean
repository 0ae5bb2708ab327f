/-
  What a pool's ask computes. Conditions: rows of at most 200.
-/
import Derived.Test.YthjanhfjehccoaaPoolSet
namespace Go.Proofs.Ythjanhfjehccoaa
set_option linter.unusedVariables false
set_option linter.unusedSimpArgs false
open Go.RowKit

/-- How many idle ones memory tells. -/
def freeAt (g : Nat) (w : World) : Nat := match w.cell? ⟨g, 9, none⟩ with | some (.slice _ n _) => n | _ => 0
theorem freeAt_is {g n c : Nat} {w : World} {A : Option Addr} (h : w.cell? ⟨g, 9, none⟩ = some (.slice A n c)) : freeAt g w = n := by unfold freeAt; rw [h]
/-- What pops keeps. -/
structure PopKeep (x y : Pol) : Prop where
  cf : y.i.cf = x.i.cf
  out : y.i.out = x.i.out
  line : y.i.line = x.i.line
  dead : y.p.dead = x.p.dead
  rep : y.p.rep = x.p.rep
  caller : y.p.caller = x.p.caller
  shut : y.p.shut.length + y.i.free.length = x.p.shut.length + x.i.free.length
/-- The idle ones less the last one. -/
def Pol.drop1 (x : Pol) : Pol := { x with i := { x.i with free := x.i.free.dropLast } }
theorem pops_snoc {y : Pol} {l : List Re} {r : Re} (h : y.i.free = l ++ [r]) : y.pops y.i.free.reverse = if y.spentB r = true then (y.drop1.shuts [r.1]).pops (y.drop1.shuts [r.1]).i.free.reverse else (y.drop1.outs y.p.caller r.1, true) := by
  have h1 : y.i.free.reverse = r :: l.reverse := by rw [h]; simp
  have h2 : y.i.free.dropLast = l := by rw [h]; simp
  rw [h1]
  conv => lhs; unfold Pol.pops
  have hd : ({ y with i := { y.i with free := l.reverse.reverse } } : Pol) = y.drop1 := by unfold Pol.drop1; rw [h2, List.reverse_reverse]
  rw [hd]
  have h3 : (y.drop1.shuts [r.1]).i.free = l := h2
  rw [h3]
theorem pops_nil {y : Pol} (h : y.i.free = []) : y.pops y.i.free.reverse = (y, false) := by
  rw [h]
  unfold Pol.pops
  have : ({ y with i := { y.i with free := [] } } : Pol) = y := by rw [← h]
  exact congrArg (fun z => (z, false)) this
theorem popKeep_step {x y : Pol} {l : List Re} {r : Re} (h : PopKeep x y) (hf : y.i.free = l ++ [r]) : PopKeep x (y.drop1.shuts [r.1]) := by
  have h2 : y.i.free.dropLast = l := by rw [hf]; simp
  refine ⟨h.cf, h.out, h.line, h.dead, h.rep, h.caller, ?_⟩
  have := h.shut
  rw [hf] at this
  simp only [Pol.shuts, Pol.drop1, h2, List.length_append, List.length_cons, List.length_nil] at this ⊢
  omega
/-- The last idle one taken: the row stored to. -/
theorem PlIs.popped [Inhabited Ex] {base g n c : Nat} {w : World} {y : Pol} {a : PlA} {A : Option Addr} (h : PlIs base w g y a) (hA : a.fA = A) (hc : n ≤ c) (hn : y.i.free.dropLast.length = n) (hcA : A ≠ none) :
    PlIs base (w.setCell ⟨g, 9, none⟩ (.slice A n c)) g y.drop1 { a with fA := A, fc := c } ∧ Below base w (w.setCell ⟨g, 9, none⟩ (.slice A n c)) ∧ Carry (plOwn g a) (plOwn g { a with fA := A, fc := c }) w (w.setCell ⟨g, 9, none⟩ (.slice A n c)) := by
  refine h.store 9 _ (by unfold plCells Pol.drop1; simp [← hn]) rfl rfl rfl rfl rfl rfl (fun w'' hs hb => ?_) ⟨⟨by show y.i.free.dropLast.length ≤ c; omega, fun e => absurd e hcA⟩, h.caps.2⟩
  have old := h.lists w'' hs hb
  refine ⟨?_, old.2⟩
  show Res w'' w''.heap.size A y.i.free.dropLast.length y.i.free.dropLast
  obtain ⟨h1, h2, h3⟩ := old.1
  refine ⟨rfl, by rw [flatMap_len encRe_len], fun h0 hk => ?_⟩
  obtain ⟨b, off, e, hb2, hcell⟩ := h3 (by rw [List.length_dropLast] at h0; omega) hk
  refine ⟨b, off, by rw [← hA]; exact e, hb2, fun j u hu => hcell j u ?_⟩
  rcases List.eq_nil_or_concat y.i.free with hn0 | ⟨l, r, hlr⟩
  · rw [hn0] at hu; simp at hu
  · rw [hlr] at hu ⊢
    rw [List.concat_eq_append, List.dropLast_concat] at hu
    rw [List.concat_eq_append, List.flatMap_append]
    rw [List.getElem?_append_left (List.getElem?_eq_some_iff.1 hu).1]
    exact hu
/-- Who asked waits: a pool's row stored to. -/
theorem PlIs.waits [Inhabited Ex] {base g : Nat} {W W1 w2 : World} {x : Pol} {a : PlA} {who : Int} {A' : Option Addr} {c' : Nat} (h0 : PlIs base W g x a) (hb1 : Below W.heap.size W W1)
    (ho2 : OwI w2 W1.heap.size 3 A' (x.i.line.length + 1) c' (x.i.line ++ [who])) (hg2 : W1.grownBy w2 none) :
    PlRow w2 g x a ∧ ∃ b, PlIs base (w2.setCell ⟨g, 11, none⟩ (.slice A' (x.i.line.length + 1) c')) g { x with i := { x.i with line := x.i.line ++ [who] } } b ∧ Below base W (w2.setCell ⟨g, 11, none⟩ (.slice A' (x.i.line.length + 1) c')) ∧ Carry (plOwn g a) (plOwn g b) W (w2.setCell ⟨g, 11, none⟩ (.slice A' (x.i.line.length + 1) c')) := by
  have h1 := h0.below hb1
  have hbase : base ≤ W.heap.size := Nat.le_trans h0.gb (Nat.le_of_lt h0.row.lt)
  have hb2 : Below W1.heap.size W1 w2 := ⟨hg2.os, hg2.tape, hg2.output, hg2.size, fun b hb => hg2.block b hb (by simp)⟩
  have h2 := h1.below hb2
  obtain ⟨h3, hb3, hC3⟩ := h2.setLine ho2 (own_lt h1)
  exact ⟨h2.row, _, h3, ((hb1.mono hbase).trans (hb2.mono (by have := hb1.size; omega))).trans hb3, ((carry_below hb1).trans (carry_below hb2)).trans hC3⟩
set_option maxRecDepth 100000 in
set_option maxHeartbeats 8000000 in
theorem ask_any [Inhabited Ex] (base g : Nat) (x : Pol) (a : PlA) (w : World) (h : PlIs base w g x a) (hn : x.p.rep.length ≤ 800) (hsn : x.p.shut.length + x.i.free.length ≤ 900) (ho : x.i.out.length ≤ 1000) (hl : x.i.line.length ≤ 1000) (hd : x.p.dead.length ≤ 1000) :
    Calls Try.prog 48 #[.pointer (some ⟨g, 0, none⟩)] w fun en w' => PlPost base g a x.ask w en w' := by
  have hR := refuses_any base g x a w h (by omega)
  obtain ⟨cl, hcl⟩ : ∃ b, Hid (x.i.closed = b) := ⟨_, rfl⟩
  rw [hcl.out] at hR
  go_enter Try.func48, Try.ntmps48
  go_wp2_with fail
  refine hR.mono ?_
  rintro e w1 ⟨a1, rfl, h1, hb1, hC1⟩
  rw [hcl.out]
  cases cl
  · rw [if_neg (by simp)] at h1
    have hA : x.ask = if (x.pops x.i.free.reverse).2 = true then (x.pops x.i.free.reverse).1 else if x.i.cf.2.2.1 ≤ ((x.pops x.i.free.reverse).1.i.line.length : Int) then (x.pops x.i.free.reverse).1.says x.p.caller (-1) 230 else { (x.pops x.i.free.reverse).1 with i := { (x.pops x.i.free.reverse).1.i with line := (x.pops x.i.free.reverse).1.i.line ++ [x.p.caller] } } := by
      unfold Pol.ask
      rw [if_neg (by rw [hcl.out]; simp)]
    have HA := Lib.hid hA
    clear hA hR h
    go_wp2_with fail
    go_loopw [2] (fun _ wr => ∃ (y : Pol) (a' : PlA), Hid (PopKeep x y) ∧ Hid (x.pops x.i.free.reverse = y.pops y.i.free.reverse) ∧ Hid (PlIs base wr g y a') ∧ Hid (Below base w1 wr) ∧ Hid (Carry (plOwn g a1) (plOwn g a') w1 wr)) (fun _ wr => freeAt g wr)
    case atStart => exact ⟨x, a1, Lib.hid ⟨rfl, rfl, rfl, rfl, rfl, rfl, rfl⟩, Lib.hid rfl, Lib.hid h1, Lib.hid (Below.refl _ _), Lib.hid (carry_below (Below.refl _ _))⟩
    case round =>
      obtain ⟨y, a', hk, hpo, hp, hb, hc⟩ := hrel
      clear h1
      rcases List.eq_nil_or_concat y.i.free with hf | ⟨l, r, hf⟩
      · have c9 : wr.cell? ⟨g, 9, none⟩ = some (.slice a'.fA 0 a'.fc) := by
          have : wr.cell? ⟨g, 9, none⟩ = some (.slice a'.fA y.i.free.length a'.fc) := hp.out.row.cell rfl
          rw [hf] at this
          exact this
        have c2 : wr.cell? ⟨g, 2, none⟩ = some (.int .i64 y.i.cf.2.2.1) := hp.out.row.cell rfl
        have c11 : wr.cell? ⟨g, 11, none⟩ = some (.slice a'.lA y.i.line.length a'.lc) := hp.out.row.cell rfl
        have hP : x.pops x.i.free.reverse = (y, false) := hpo.out.trans (pops_nil hf)
        have HY0 : x.ask = if y.i.cf.2.2.1 ≤ (y.i.line.length : Int) then y.says x.p.caller (-1) 230 else { y with i := { y.i with line := y.i.line ++ [x.p.caller] } } := by
          rw [HA.out, hP, ← hk.out.cf]
          exact if_neg (show ¬ (((y, false) : Pol × Bool).2 = true) from Bool.false_ne_true)
        have hyl : y.i.line.length ≤ 1000 := by rw [hk.out.line]; exact hl
        have hyr : y.p.rep.length ≤ 800 := by rw [hk.out.rep]; exact hn
        have hyc : x.p.caller = y.p.caller := hk.out.caller.symm
        rw [hyc] at HY0
        clear hP hf
        by_cases hw : y.i.cf.2.2.1 ≤ (y.i.line.length : Int)
        · rw [if_pos hw] at HY0
          have HY := Lib.hid HY0
          have d1 : decide (y.i.cf.2.2.1 ≤ ((y.i.line.length : Nat) : Int)) = true := decide_eq_true hw
          clear HY0 hw
          go_upto_region 8 with fail
          go_quiet (fail)
          rename_i nq
          have h0 := hp.out.drewN nq
          have c19 : (wr.drewN nq).cell? ⟨g, 19, none⟩ = some (.int .i64 y.p.caller) := h0.row.cell rfl
          have hz := says_any base g _ _ y.p.caller (-1) 230 _ h0 (by omega)
          go_wp2_with fail
          refine hz.mono ?_
          rintro en w4 ⟨a4, rfl, h4, hb4, hC4⟩
          go_wp2_with fail
          go_end0
          rw [HY.out]
          exact ⟨a4, rfl, h4, ((hb1.trans hb.out).trans (show Below base wr (wr.drewN nq) from ⟨rfl, rfl, rfl, Nat.le_refl _, fun _ _ => rfl⟩)).trans hb4, ((hC1.trans hc.out).trans (carry_below (show Below wr.heap.size wr (wr.drewN nq) from ⟨rfl, rfl, rfl, Nat.le_refl _, fun _ _ => rfl⟩))).trans hC4⟩
        · rw [if_neg hw] at HY0
          have HY := Lib.hid HY0
          have d1 : decide (y.i.cf.2.2.1 ≤ ((y.i.line.length : Nat) : Int)) = false := decide_eq_false hw
          clear HY0 hw
          go_upto_region 8 with fail
          go_quiet (fail)
          rename_i nq
          have h0 := hp.out.drewN nq
          have hB0 := ((hb1.trans hb.out).trans (show Below base wr (wr.drewN nq) from ⟨rfl, rfl, rfl, Nat.le_refl _, fun _ _ => rfl⟩))
          have hC0 := ((hC1.trans hc.out).trans (carry_below (show Below wr.heap.size wr (wr.drewN nq) from ⟨rfl, rfl, rfl, Nat.le_refl _, fun _ _ => rfl⟩)))
          clear c9 c2 c11 d1 hp hb hc hb1 hC1
          go_upto_region 10 with fail
          obtain ⟨W, hW⟩ : ∃ W, wr.drewN nq = W := ⟨_, rfl⟩
          rw [hW] at h0 hB0 hC0 ⊢
          clear hW
          have hb1 := Below.new_ W (.cells #[.int .i64 y.p.caller] 3)
          have hl1 : Ints (W.alloc (.cells #[.int .i64 y.p.caller] 3)) (W.heap.size + 1) (some ⟨W.heap.size, 0, none⟩) 1 [y.p.caller] := Ints.new1 W y.p.caller 3
          have h1 := h0.below hb1
          have hf1 := h1.lists.at_.2.2.1
          have c11 : W.cell? ⟨g, 11, none⟩ = some (.slice a'.lA y.i.line.length a'.lc) := h0.row.cell rfl
          have c19 : W.cell? ⟨g, 19, none⟩ = some (.int .i64 y.p.caller) := h0.row.cell rfl
          have e11 : (W.alloc (.cells #[.int .i64 y.p.caller] 3)).cell? ⟨g, 11, none⟩ = some (.slice a'.lA y.i.line.length a'.lc) := h1.row.cell rfl
          have e19 : (W.alloc (.cells #[.int .i64 y.p.caller] 3)).cell? ⟨g, 19, none⟩ = some (.int .i64 y.p.caller) := h1.row.cell rfl
          have hC := h0.caps.2.2
          have hb1d : Below W.heap.size W (W.alloc (.cells #[.int .i64 y.p.caller] 3)).drew := ⟨hb1.os, hb1.tape, hb1.output, hb1.size, hb1.block⟩
          refine wp_region_held_drew (S := (fun wx => wx.cell? ⟨g, 19, none⟩ = some (.int .i64 y.p.caller))) (by kernel_rfl) ?_ (fun hHeld => ?_)
          · (try dsimp only); first | done | ((first | exact c19 | exact e19 | exact s19 | exact t19))
          first
           | (refine wpAnyH_take (i := 0) (v := ?_) rfl (by kernel_rfl) (by kernel_rfl) (by kernel_rfl) (fun _ _ _ h => h) (Or.inl ⟨by rfl, ?_⟩) hHeld ?_; rotate_left; (intro wq hSw; (try dsimp only at hSw); go_simp; done))
           | (refine wpAnyH_take (i := 0) (v := ?_) rfl (by kernel_rfl) (by kernel_rfl) (by kernel_rfl) (fun _ _ _ h => h) (Or.inl ⟨by rfl, ?_⟩) hHeld ?_; rotate_left; (intro wq hSw; (try dsimp only at hSw); go_simp; with_reducible rfl))
           | refine wpAnyH_take (i := 0) (v := undef) rfl (by kernel_rfl) (by kernel_rfl) (by kernel_rfl) (fun _ _ _ h => h) (Or.inr ⟨by rfl, rfl⟩) hHeld ?_
          try simp only [Act.put, List.getElem_toArray, List.getElem_cons_succ, List.getElem_cons_zero, List.setIfInBounds_toArray, List.set_cons_zero, List.set_cons_succ]
          first
           | (refine wpAnyH_take (i := 1) (v := ?_) rfl (by kernel_rfl) (by kernel_rfl) (by kernel_rfl) (fun _ _ _ h => h) (Or.inl ⟨by rfl, ?_⟩) hHeld ?_; rotate_left; (intro wq hSw; (try dsimp only at hSw); go_simp; done))
           | (refine wpAnyH_take (i := 1) (v := ?_) rfl (by kernel_rfl) (by kernel_rfl) (by kernel_rfl) (fun _ _ _ h => h) (Or.inl ⟨by rfl, ?_⟩) hHeld ?_; rotate_left; (intro wq hSw; (try dsimp only at hSw); go_simp; with_reducible rfl))
           | refine wpAnyH_take (i := 1) (v := undef) rfl (by kernel_rfl) (by kernel_rfl) (by kernel_rfl) (fun _ _ _ h => h) (Or.inr ⟨by rfl, rfl⟩) hHeld ?_
          try simp only [Act.put, List.getElem_toArray, List.getElem_cons_succ, List.getElem_cons_zero, List.setIfInBounds_toArray, List.set_cons_zero, List.set_cons_succ]
          first
           | (refine wpAnyH_take (i := 7) (v := ?_) rfl (by kernel_rfl) (by kernel_rfl) (by kernel_rfl) (fun _ _ _ h => h) (Or.inl ⟨by rfl, ?_⟩) hHeld ?_; rotate_left; (intro wq hSw; (try dsimp only at hSw); go_simp; done))
           | (refine wpAnyH_take (i := 7) (v := ?_) rfl (by kernel_rfl) (by kernel_rfl) (by kernel_rfl) (fun _ _ _ h => h) (Or.inl ⟨by rfl, ?_⟩) hHeld ?_; rotate_left; (intro wq hSw; (try dsimp only at hSw); go_simp; with_reducible rfl))
           | refine wpAnyH_take (i := 7) (v := undef) rfl (by kernel_rfl) (by kernel_rfl) (by kernel_rfl) (fun _ _ _ h => h) (Or.inr ⟨by rfl, rfl⟩) hHeld ?_
          try simp only [Act.put, List.getElem_toArray, List.getElem_cons_succ, List.getElem_cons_zero, List.setIfInBounds_toArray, List.set_cons_zero, List.set_cons_succ]
          first
           | (refine wpAnyH_take (i := 2) (v := ?_) rfl (by kernel_rfl) (by kernel_rfl) (by kernel_rfl) (fun _ _ _ h => h) (Or.inl ⟨by rfl, ?_⟩) hHeld ?_; rotate_left; (intro wq hSw; (try dsimp only at hSw); go_simp; done))
           | (refine wpAnyH_take (i := 2) (v := ?_) rfl (by kernel_rfl) (by kernel_rfl) (by kernel_rfl) (fun _ _ _ h => h) (Or.inl ⟨by rfl, ?_⟩) hHeld ?_; rotate_left; (intro wq hSw; (try dsimp only at hSw); go_simp; with_reducible rfl))
           | refine wpAnyH_take (i := 2) (v := undef) rfl (by kernel_rfl) (by kernel_rfl) (by kernel_rfl) (fun _ _ _ h => h) (Or.inr ⟨by rfl, rfl⟩) hHeld ?_
          try simp only [Act.put, List.getElem_toArray, List.getElem_cons_succ, List.getElem_cons_zero, List.setIfInBounds_toArray, List.set_cons_zero, List.set_cons_succ]
          first
           | (refine wpAnyH_take (i := 8) (v := ?_) rfl (by kernel_rfl) (by kernel_rfl) (by kernel_rfl) (fun _ _ _ h => h) (Or.inl ⟨by rfl, ?_⟩) hHeld ?_; rotate_left; (intro wq hSw; (try dsimp only at hSw); go_simp; done))
           | (refine wpAnyH_take (i := 8) (v := ?_) rfl (by kernel_rfl) (by kernel_rfl) (by kernel_rfl) (fun _ _ _ h => h) (Or.inl ⟨by rfl, ?_⟩) hHeld ?_; rotate_left; (intro wq hSw; (try dsimp only at hSw); go_simp; with_reducible rfl))
           | refine wpAnyH_take (i := 8) (v := undef) rfl (by kernel_rfl) (by kernel_rfl) (by kernel_rfl) (fun _ _ _ h => h) (Or.inr ⟨by rfl, rfl⟩) hHeld ?_
          try simp only [Act.put, List.getElem_toArray, List.getElem_cons_succ, List.getElem_cons_zero, List.setIfInBounds_toArray, List.set_cons_zero, List.set_cons_succ]
          first
           | (refine wpAnyH_take (i := 3) (v := ?_) rfl (by kernel_rfl) (by kernel_rfl) (by kernel_rfl) (fun _ _ _ h => h) (Or.inl ⟨by rfl, ?_⟩) hHeld ?_; rotate_left; (intro wq hSw; (try dsimp only at hSw); go_simp; done))
           | (refine wpAnyH_take (i := 3) (v := ?_) rfl (by kernel_rfl) (by kernel_rfl) (by kernel_rfl) (fun _ _ _ h => h) (Or.inl ⟨by rfl, ?_⟩) hHeld ?_; rotate_left; (intro wq hSw; (try dsimp only at hSw); go_simp; with_reducible rfl))
           | refine wpAnyH_take (i := 3) (v := undef) rfl (by kernel_rfl) (by kernel_rfl) (by kernel_rfl) (fun _ _ _ h => h) (Or.inr ⟨by rfl, rfl⟩) hHeld ?_
          try simp only [Act.put, List.getElem_toArray, List.getElem_cons_succ, List.getElem_cons_zero, List.setIfInBounds_toArray, List.set_cons_zero, List.set_cons_succ]
          first
           | (refine wpAnyH_take (i := 9) (v := ?_) rfl (by kernel_rfl) (by kernel_rfl) (by kernel_rfl) (fun _ _ _ h => h) (Or.inl ⟨by rfl, ?_⟩) hHeld ?_; rotate_left; (intro wq hSw; (try dsimp only at hSw); go_simp; done))
           | (refine wpAnyH_take (i := 9) (v := ?_) rfl (by kernel_rfl) (by kernel_rfl) (by kernel_rfl) (fun _ _ _ h => h) (Or.inl ⟨by rfl, ?_⟩) hHeld ?_; rotate_left; (intro wq hSw; (try dsimp only at hSw); go_simp; with_reducible rfl))
           | refine wpAnyH_take (i := 9) (v := undef) rfl (by kernel_rfl) (by kernel_rfl) (by kernel_rfl) (fun _ _ _ h => h) (Or.inr ⟨by rfl, rfl⟩) hHeld ?_
          try simp only [Act.put, List.getElem_toArray, List.getElem_cons_succ, List.getElem_cons_zero, List.setIfInBounds_toArray, List.set_cons_zero, List.set_cons_succ]
          first
           | (refine wpAnyH_take (i := 4) (v := ?_) rfl (by kernel_rfl) (by kernel_rfl) (by kernel_rfl) (fun _ _ _ h => h) (Or.inl ⟨by rfl, ?_⟩) hHeld ?_; rotate_left; (intro wq hSw; (try dsimp only at hSw); go_simp; done))
           | (refine wpAnyH_take (i := 4) (v := ?_) rfl (by kernel_rfl) (by kernel_rfl) (by kernel_rfl) (fun _ _ _ h => h) (Or.inl ⟨by rfl, ?_⟩) hHeld ?_; rotate_left; (intro wq hSw; (try dsimp only at hSw); go_simp; with_reducible rfl))
           | refine wpAnyH_take (i := 4) (v := undef) rfl (by kernel_rfl) (by kernel_rfl) (by kernel_rfl) (fun _ _ _ h => h) (Or.inr ⟨by rfl, rfl⟩) hHeld ?_
          try simp only [Act.put, List.getElem_toArray, List.getElem_cons_succ, List.getElem_cons_zero, List.setIfInBounds_toArray, List.set_cons_zero, List.set_cons_succ]
          first
           | (refine wpAnyH_take (i := 10) (v := ?_) rfl (by kernel_rfl) (by kernel_rfl) (by kernel_rfl) (fun _ _ _ h => h) (Or.inl ⟨by rfl, ?_⟩) hHeld ?_; rotate_left; (intro wq hSw; (try dsimp only at hSw); go_simp; done))
           | (refine wpAnyH_take (i := 10) (v := ?_) rfl (by kernel_rfl) (by kernel_rfl) (by kernel_rfl) (fun _ _ _ h => h) (Or.inl ⟨by rfl, ?_⟩) hHeld ?_; rotate_left; (intro wq hSw; (try dsimp only at hSw); go_simp; with_reducible rfl))
           | refine wpAnyH_take (i := 10) (v := undef) rfl (by kernel_rfl) (by kernel_rfl) (by kernel_rfl) (fun _ _ _ h => h) (Or.inr ⟨by rfl, rfl⟩) hHeld ?_
          try simp only [Act.put, List.getElem_toArray, List.getElem_cons_succ, List.getElem_cons_zero, List.setIfInBounds_toArray, List.set_cons_zero, List.set_cons_succ]
          first
           | (refine wpAnyH_take (i := 11) (v := ?_) rfl (by kernel_rfl) (by kernel_rfl) (by kernel_rfl) (fun _ _ _ h => h) (Or.inl ⟨by rfl, ?_⟩) hHeld ?_; rotate_left; (intro wq hSw; (try dsimp only at hSw); have v19 := hSw; go_simp; done))
           | (refine wpAnyH_take (i := 11) (v := ?_) rfl (by kernel_rfl) (by kernel_rfl) (by kernel_rfl) (fun _ _ _ h => h) (Or.inl ⟨by rfl, ?_⟩) hHeld ?_; rotate_left; (intro wq hSw; (try dsimp only at hSw); have v19 := hSw; go_simp; with_reducible rfl))
           | refine wpAnyH_take (i := 11) (v := undef) rfl (by kernel_rfl) (by kernel_rfl) (by kernel_rfl) (fun _ _ _ h => h) (Or.inr ⟨by rfl, rfl⟩) hHeld ?_
          try simp only [Act.put, List.getElem_toArray, List.getElem_cons_succ, List.getElem_cons_zero, List.setIfInBounds_toArray, List.set_cons_zero, List.set_cons_succ]
          refine wpAnyH_ready (rs := [5, 12]) (by kernel_rfl) (by simp) ?_
          refine AllReadyH.cons rfl (fun K hK => ?_) ?_
          ·
           go_simp
           refine hK.out _ _ ?_ (fun hHeld => ?_)
           · (try dsimp only); first | done | ((first | exact c19 | exact e19 | exact s19 | exact t19))
           clear hK K
           try simp only [Act.put, List.getElem_toArray, List.getElem_cons_succ, List.getElem_cons_zero, List.setIfInBounds_toArray, List.set_cons_zero, List.set_cons_succ]
           refine wpAnyH_ready (rs := [6, 12]) (by kernel_rfl) (by simp) ?_
           refine AllReadyH.cons rfl (fun K hK => ?_) ?_
           ·
            go_simp; go_at_call 68; refine (ClipI_any _ _ _ _ hC.1 hC.2 (by omega)).mono ?_; rintro e w9 ⟨rfl, rfl⟩; try go_wp2_with fail
            refine hK.out _ _ ?_ (fun hHeld => ?_)
            · (try dsimp only); first | done | ((first | exact c19 | exact e19 | exact s19 | exact t19))
            clear hK K
            try simp only [Act.put, List.getElem_toArray, List.getElem_cons_succ, List.getElem_cons_zero, List.setIfInBounds_toArray, List.set_cons_zero, List.set_cons_succ]
            refine wpAnyH_ready (rs := [12]) (by kernel_rfl) (by simp) ?_
            refine AllReadyH.cons rfl (fun K hK => ?_) AllReadyH.nil
            go_simp
            refine hK.out _ _ ?_ (fun hHeld => ?_)
            · (try dsimp only); first | done | ((first | exact c19 | exact e19 | exact s19 | exact t19))
            clear hK K
            try simp only [Act.put, List.getElem_toArray, List.getElem_cons_succ, List.getElem_cons_zero, List.setIfInBounds_toArray, List.set_cons_zero, List.set_cons_succ]
            refine wpAnyH_ready (rs := [13]) (by kernel_rfl) (by simp) ?_
            refine AllReadyH.cons rfl (fun K hK => ?_) AllReadyH.nil
            refine step_appFullI (by rfl) (.tmp 84) (.tmp 90) (by rfl) a'.lA y.i.line.length _ y.i.line (by first | (go_simp; done) | rfl) hf1 (W.heap.size + 1) (some ⟨W.heap.size, 0, none⟩) 1 1 [y.p.caller] (by first | (go_simp; done) | rfl) hl1 (by omega) (by omega) ?_; intro A' c' w2 ho2 hg2 hr2; obtain ⟨hrow2, b2, h3, hb3, hc3⟩ := h0.waits hb1d ho2 hg2; have f11 := hrow2.free 11; have d11 := hrow2.cell (i := 11) rfl; have s19 := hrow2.cell (i := 19) rfl; have t19 : (w2.setCell ⟨g, 11, none⟩ (.slice A' (y.i.line.length + 1) c')).cell? ⟨g, 19, none⟩ = some (.int .i64 y.p.caller) := h3.row.cell rfl
            refine hK.out _ _ ?_ (fun hHeld => ?_)
            · (try dsimp only); first | done | ((first | exact c19 | exact e19 | exact s19 | exact t19))
            clear hK K
            try simp only [Act.put, List.getElem_toArray, List.getElem_cons_succ, List.getElem_cons_zero, List.setIfInBounds_toArray, List.set_cons_zero, List.set_cons_succ]
            first
             | (refine wpAnyH_take (i := 14) (v := ?_) rfl (by kernel_rfl) (by kernel_rfl) (by kernel_rfl) (fun _ _ _ h => h) (Or.inl ⟨by rfl, ?_⟩) hHeld ?_; rotate_left; (intro wq hSw; (try dsimp only at hSw); go_simp; done))
             | (refine wpAnyH_take (i := 14) (v := ?_) rfl (by kernel_rfl) (by kernel_rfl) (by kernel_rfl) (fun _ _ _ h => h) (Or.inl ⟨by rfl, ?_⟩) hHeld ?_; rotate_left; (intro wq hSw; (try dsimp only at hSw); go_simp; with_reducible rfl))
             | refine wpAnyH_take (i := 14) (v := undef) rfl (by kernel_rfl) (by kernel_rfl) (by kernel_rfl) (fun _ _ _ h => h) (Or.inr ⟨by rfl, rfl⟩) hHeld ?_
            try simp only [Act.put, List.getElem_toArray, List.getElem_cons_succ, List.getElem_cons_zero, List.setIfInBounds_toArray, List.set_cons_zero, List.set_cons_succ]
            first
             | (refine wpAnyH_take (i := 15) (v := ?_) rfl (by kernel_rfl) (by kernel_rfl) (by kernel_rfl) (fun _ _ _ h => h) (Or.inl ⟨by rfl, ?_⟩) hHeld ?_; rotate_left; (intro wq hSw; (try dsimp only at hSw); go_simp; done))
             | (refine wpAnyH_take (i := 15) (v := ?_) rfl (by kernel_rfl) (by kernel_rfl) (by kernel_rfl) (fun _ _ _ h => h) (Or.inl ⟨by rfl, ?_⟩) hHeld ?_; rotate_left; (intro wq hSw; (try dsimp only at hSw); go_simp; with_reducible rfl))
             | refine wpAnyH_take (i := 15) (v := undef) rfl (by kernel_rfl) (by kernel_rfl) (by kernel_rfl) (fun _ _ _ h => h) (Or.inr ⟨by rfl, rfl⟩) hHeld ?_
            try simp only [Act.put, List.getElem_toArray, List.getElem_cons_succ, List.getElem_cons_zero, List.setIfInBounds_toArray, List.set_cons_zero, List.set_cons_succ]
            first
             | (refine wpAnyH_take (i := 16) (v := ?_) rfl (by kernel_rfl) (by kernel_rfl) (by kernel_rfl) (fun _ _ _ h => h) (Or.inl ⟨by rfl, ?_⟩) hHeld ?_; rotate_left; (intro wq hSw; (try dsimp only at hSw); go_simp; done))
             | (refine wpAnyH_take (i := 16) (v := ?_) rfl (by kernel_rfl) (by kernel_rfl) (by kernel_rfl) (fun _ _ _ h => h) (Or.inl ⟨by rfl, ?_⟩) hHeld ?_; rotate_left; (intro wq hSw; (try dsimp only at hSw); go_simp; with_reducible rfl))
             | refine wpAnyH_take (i := 16) (v := undef) rfl (by kernel_rfl) (by kernel_rfl) (by kernel_rfl) (fun _ _ _ h => h) (Or.inr ⟨by rfl, rfl⟩) hHeld ?_
            try simp only [Act.put, List.getElem_toArray, List.getElem_cons_succ, List.getElem_cons_zero, List.setIfInBounds_toArray, List.set_cons_zero, List.set_cons_succ]
            refine wpAnyH_ready (rs := [17]) (by kernel_rfl) (by simp) ?_
            refine AllReadyH.cons rfl (fun K hK => ?_) AllReadyH.nil
            go_simp
            refine hK.out _ _ ?_ (fun hHeld => ?_)
            · (try dsimp only); first | done | ((first | exact c19 | exact e19 | exact s19 | exact t19))
            clear hK K
            try simp only [Act.put, List.getElem_toArray, List.getElem_cons_succ, List.getElem_cons_zero, List.setIfInBounds_toArray, List.set_cons_zero, List.set_cons_succ]
            refine wpAnyH_done (by kernel_rfl) ?_ _
            clear hHeld; go_wp2_with fail; go_end0; rw [HY.out]; exact ⟨b2, rfl, h3, hB0.trans hb3, hC0.trans hc3⟩
           refine AllReadyH.cons rfl (fun K hK => ?_) AllReadyH.nil
           go_simp
           refine hK.out _ _ ?_ (fun hHeld => ?_)
           · (try dsimp only); first | done | ((first | exact c19 | exact e19 | exact s19 | exact t19))
           clear hK K
           try simp only [Act.put, List.getElem_toArray, List.getElem_cons_succ, List.getElem_cons_zero, List.setIfInBounds_toArray, List.set_cons_zero, List.set_cons_succ]
           refine wpAnyH_ready (rs := [6]) (by kernel_rfl) (by simp) ?_
           refine AllReadyH.cons rfl (fun K hK => ?_) AllReadyH.nil
           go_simp; go_at_call 68; refine (ClipI_any _ _ _ _ hC.1 hC.2 (by omega)).mono ?_; rintro e w9 ⟨rfl, rfl⟩; try go_wp2_with fail
           refine hK.out _ _ ?_ (fun hHeld => ?_)
           · (try dsimp only); first | done | ((first | exact c19 | exact e19 | exact s19 | exact t19))
           clear hK K
           try simp only [Act.put, List.getElem_toArray, List.getElem_cons_succ, List.getElem_cons_zero, List.setIfInBounds_toArray, List.set_cons_zero, List.set_cons_succ]
           refine wpAnyH_ready (rs := [13]) (by kernel_rfl) (by simp) ?_
           refine AllReadyH.cons rfl (fun K hK => ?_) AllReadyH.nil
           refine step_appFullI (by rfl) (.tmp 84) (.tmp 90) (by rfl) a'.lA y.i.line.length _ y.i.line (by first | (go_simp; done) | rfl) hf1 (W.heap.size + 1) (some ⟨W.heap.size, 0, none⟩) 1 1 [y.p.caller] (by first | (go_simp; done) | rfl) hl1 (by omega) (by omega) ?_; intro A' c' w2 ho2 hg2 hr2; obtain ⟨hrow2, b2, h3, hb3, hc3⟩ := h0.waits hb1d ho2 hg2; have f11 := hrow2.free 11; have d11 := hrow2.cell (i := 11) rfl; have s19 := hrow2.cell (i := 19) rfl; have t19 : (w2.setCell ⟨g, 11, none⟩ (.slice A' (y.i.line.length + 1) c')).cell? ⟨g, 19, none⟩ = some (.int .i64 y.p.caller) := h3.row.cell rfl
           refine hK.out _ _ ?_ (fun hHeld => ?_)
           · (try dsimp only); first | done | ((first | exact c19 | exact e19 | exact s19 | exact t19))
           clear hK K
           try simp only [Act.put, List.getElem_toArray, List.getElem_cons_succ, List.getElem_cons_zero, List.setIfInBounds_toArray, List.set_cons_zero, List.set_cons_succ]
           first
            | (refine wpAnyH_take (i := 14) (v := ?_) rfl (by kernel_rfl) (by kernel_rfl) (by kernel_rfl) (fun _ _ _ h => h) (Or.inl ⟨by rfl, ?_⟩) hHeld ?_; rotate_left; (intro wq hSw; (try dsimp only at hSw); go_simp; done))
            | (refine wpAnyH_take (i := 14) (v := ?_) rfl (by kernel_rfl) (by kernel_rfl) (by kernel_rfl) (fun _ _ _ h => h) (Or.inl ⟨by rfl, ?_⟩) hHeld ?_; rotate_left; (intro wq hSw; (try dsimp only at hSw); go_simp; with_reducible rfl))
            | refine wpAnyH_take (i := 14) (v := undef) rfl (by kernel_rfl) (by kernel_rfl) (by kernel_rfl) (fun _ _ _ h => h) (Or.inr ⟨by rfl, rfl⟩) hHeld ?_
           try simp only [Act.put, List.getElem_toArray, List.getElem_cons_succ, List.getElem_cons_zero, List.setIfInBounds_toArray, List.set_cons_zero, List.set_cons_succ]
           first
            | (refine wpAnyH_take (i := 15) (v := ?_) rfl (by kernel_rfl) (by kernel_rfl) (by kernel_rfl) (fun _ _ _ h => h) (Or.inl ⟨by rfl, ?_⟩) hHeld ?_; rotate_left; (intro wq hSw; (try dsimp only at hSw); go_simp; done))
            | (refine wpAnyH_take (i := 15) (v := ?_) rfl (by kernel_rfl) (by kernel_rfl) (by kernel_rfl) (fun _ _ _ h => h) (Or.inl ⟨by rfl, ?_⟩) hHeld ?_; rotate_left; (intro wq hSw; (try dsimp only at hSw); go_simp; with_reducible rfl))
            | refine wpAnyH_take (i := 15) (v := undef) rfl (by kernel_rfl) (by kernel_rfl) (by kernel_rfl) (fun _ _ _ h => h) (Or.inr ⟨by rfl, rfl⟩) hHeld ?_
           try simp only [Act.put, List.getElem_toArray, List.getElem_cons_succ, List.getElem_cons_zero, List.setIfInBounds_toArray, List.set_cons_zero, List.set_cons_succ]
           first
            | (refine wpAnyH_take (i := 16) (v := ?_) rfl (by kernel_rfl) (by kernel_rfl) (by kernel_rfl) (fun _ _ _ h => h) (Or.inl ⟨by rfl, ?_⟩) hHeld ?_; rotate_left; (intro wq hSw; (try dsimp only at hSw); go_simp; done))
            | (refine wpAnyH_take (i := 16) (v := ?_) rfl (by kernel_rfl) (by kernel_rfl) (by kernel_rfl) (fun _ _ _ h => h) (Or.inl ⟨by rfl, ?_⟩) hHeld ?_; rotate_left; (intro wq hSw; (try dsimp only at hSw); go_simp; with_reducible rfl))
            | refine wpAnyH_take (i := 16) (v := undef) rfl (by kernel_rfl) (by kernel_rfl) (by kernel_rfl) (fun _ _ _ h => h) (Or.inr ⟨by rfl, rfl⟩) hHeld ?_
           try simp only [Act.put, List.getElem_toArray, List.getElem_cons_succ, List.getElem_cons_zero, List.setIfInBounds_toArray, List.set_cons_zero, List.set_cons_succ]
           refine wpAnyH_ready (rs := [17]) (by kernel_rfl) (by simp) ?_
           refine AllReadyH.cons rfl (fun K hK => ?_) AllReadyH.nil
           go_simp
           refine hK.out _ _ ?_ (fun hHeld => ?_)
           · (try dsimp only); first | done | ((first | exact c19 | exact e19 | exact s19 | exact t19))
           clear hK K
           try simp only [Act.put, List.getElem_toArray, List.getElem_cons_succ, List.getElem_cons_zero, List.setIfInBounds_toArray, List.set_cons_zero, List.set_cons_succ]
           refine wpAnyH_done (by kernel_rfl) ?_ _
           clear hHeld; go_wp2_with fail; go_end0; rw [HY.out]; exact ⟨b2, rfl, h3, hB0.trans hb3, hC0.trans hc3⟩
          refine AllReadyH.cons rfl (fun K hK => ?_) AllReadyH.nil
          go_simp
          refine hK.out _ _ ?_ (fun hHeld => ?_)
          · (try dsimp only); first | done | ((first | exact c19 | exact e19 | exact s19 | exact t19))
          clear hK K
          try simp only [Act.put, List.getElem_toArray, List.getElem_cons_succ, List.getElem_cons_zero, List.setIfInBounds_toArray, List.set_cons_zero, List.set_cons_succ]
          refine wpAnyH_ready (rs := [5]) (by kernel_rfl) (by simp) ?_
          refine AllReadyH.cons rfl (fun K hK => ?_) AllReadyH.nil
          go_simp
          refine hK.out _ _ ?_ (fun hHeld => ?_)
          · (try dsimp only); first | done | ((first | exact c19 | exact e19 | exact s19 | exact t19))
          clear hK K
          try simp only [Act.put, List.getElem_toArray, List.getElem_cons_succ, List.getElem_cons_zero, List.setIfInBounds_toArray, List.set_cons_zero, List.set_cons_succ]
          refine wpAnyH_ready (rs := [6]) (by kernel_rfl) (by simp) ?_
          refine AllReadyH.cons rfl (fun K hK => ?_) AllReadyH.nil
          go_simp; go_at_call 68; refine (ClipI_any _ _ _ _ hC.1 hC.2 (by omega)).mono ?_; rintro e w9 ⟨rfl, rfl⟩; try go_wp2_with fail
          refine hK.out _ _ ?_ (fun hHeld => ?_)
          · (try dsimp only); first | done | ((first | exact c19 | exact e19 | exact s19 | exact t19))
          clear hK K
          try simp only [Act.put, List.getElem_toArray, List.getElem_cons_succ, List.getElem_cons_zero, List.setIfInBounds_toArray, List.set_cons_zero, List.set_cons_succ]
          refine wpAnyH_ready (rs := [13]) (by kernel_rfl) (by simp) ?_
          refine AllReadyH.cons rfl (fun K hK => ?_) AllReadyH.nil
          refine step_appFullI (by rfl) (.tmp 84) (.tmp 90) (by rfl) a'.lA y.i.line.length _ y.i.line (by first | (go_simp; done) | rfl) hf1 (W.heap.size + 1) (some ⟨W.heap.size, 0, none⟩) 1 1 [y.p.caller] (by first | (go_simp; done) | rfl) hl1 (by omega) (by omega) ?_; intro A' c' w2 ho2 hg2 hr2; obtain ⟨hrow2, b2, h3, hb3, hc3⟩ := h0.waits hb1d ho2 hg2; have f11 := hrow2.free 11; have d11 := hrow2.cell (i := 11) rfl; have s19 := hrow2.cell (i := 19) rfl; have t19 : (w2.setCell ⟨g, 11, none⟩ (.slice A' (y.i.line.length + 1) c')).cell? ⟨g, 19, none⟩ = some (.int .i64 y.p.caller) := h3.row.cell rfl
          refine hK.out _ _ ?_ (fun hHeld => ?_)
          · (try dsimp only); first | done | ((first | exact c19 | exact e19 | exact s19 | exact t19))
          clear hK K
          try simp only [Act.put, List.getElem_toArray, List.getElem_cons_succ, List.getElem_cons_zero, List.setIfInBounds_toArray, List.set_cons_zero, List.set_cons_succ]
          first
           | (refine wpAnyH_take (i := 14) (v := ?_) rfl (by kernel_rfl) (by kernel_rfl) (by kernel_rfl) (fun _ _ _ h => h) (Or.inl ⟨by rfl, ?_⟩) hHeld ?_; rotate_left; (intro wq hSw; (try dsimp only at hSw); go_simp; done))
           | (refine wpAnyH_take (i := 14) (v := ?_) rfl (by kernel_rfl) (by kernel_rfl) (by kernel_rfl) (fun _ _ _ h => h) (Or.inl ⟨by rfl, ?_⟩) hHeld ?_; rotate_left; (intro wq hSw; (try dsimp only at hSw); go_simp; with_reducible rfl))
           | refine wpAnyH_take (i := 14) (v := undef) rfl (by kernel_rfl) (by kernel_rfl) (by kernel_rfl) (fun _ _ _ h => h) (Or.inr ⟨by rfl, rfl⟩) hHeld ?_
          try simp only [Act.put, List.getElem_toArray, List.getElem_cons_succ, List.getElem_cons_zero, List.setIfInBounds_toArray, List.set_cons_zero, List.set_cons_succ]
          first
           | (refine wpAnyH_take (i := 15) (v := ?_) rfl (by kernel_rfl) (by kernel_rfl) (by kernel_rfl) (fun _ _ _ h => h) (Or.inl ⟨by rfl, ?_⟩) hHeld ?_; rotate_left; (intro wq hSw; (try dsimp only at hSw); go_simp; done))
           | (refine wpAnyH_take (i := 15) (v := ?_) rfl (by kernel_rfl) (by kernel_rfl) (by kernel_rfl) (fun _ _ _ h => h) (Or.inl ⟨by rfl, ?_⟩) hHeld ?_; rotate_left; (intro wq hSw; (try dsimp only at hSw); go_simp; with_reducible rfl))
           | refine wpAnyH_take (i := 15) (v := undef) rfl (by kernel_rfl) (by kernel_rfl) (by kernel_rfl) (fun _ _ _ h => h) (Or.inr ⟨by rfl, rfl⟩) hHeld ?_
          try simp only [Act.put, List.getElem_toArray, List.getElem_cons_succ, List.getElem_cons_zero, List.setIfInBounds_toArray, List.set_cons_zero, List.set_cons_succ]
          first
           | (refine wpAnyH_take (i := 16) (v := ?_) rfl (by kernel_rfl) (by kernel_rfl) (by kernel_rfl) (fun _ _ _ h => h) (Or.inl ⟨by rfl, ?_⟩) hHeld ?_; rotate_left; (intro wq hSw; (try dsimp only at hSw); go_simp; done))
           | (refine wpAnyH_take (i := 16) (v := ?_) rfl (by kernel_rfl) (by kernel_rfl) (by kernel_rfl) (fun _ _ _ h => h) (Or.inl ⟨by rfl, ?_⟩) hHeld ?_; rotate_left; (intro wq hSw; (try dsimp only at hSw); go_simp; with_reducible rfl))
           | refine wpAnyH_take (i := 16) (v := undef) rfl (by kernel_rfl) (by kernel_rfl) (by kernel_rfl) (fun _ _ _ h => h) (Or.inr ⟨by rfl, rfl⟩) hHeld ?_
          try simp only [Act.put, List.getElem_toArray, List.getElem_cons_succ, List.getElem_cons_zero, List.setIfInBounds_toArray, List.set_cons_zero, List.set_cons_succ]
          refine wpAnyH_ready (rs := [17]) (by kernel_rfl) (by simp) ?_
          refine AllReadyH.cons rfl (fun K hK => ?_) AllReadyH.nil
          go_simp
          refine hK.out _ _ ?_ (fun hHeld => ?_)
          · (try dsimp only); first | done | ((first | exact c19 | exact e19 | exact s19 | exact t19))
          clear hK K
          try simp only [Act.put, List.getElem_toArray, List.getElem_cons_succ, List.getElem_cons_zero, List.setIfInBounds_toArray, List.set_cons_zero, List.set_cons_succ]
          refine wpAnyH_done (by kernel_rfl) ?_ _
          clear hHeld; go_wp2_with fail; go_end0; rw [HY.out]; exact ⟨b2, rfl, h3, hB0.trans hb3, hC0.trans hc3⟩
      · rw [List.concat_eq_append] at hf
        obtain ⟨n, hln⟩ : ∃ n, Hid (l.length = n) := ⟨_, rfl⟩
        have hfl : y.i.free.length = n + 1 := by rw [hf, List.length_append, hln.out]; rfl
        have hdl : y.i.free.dropLast.length = n := by rw [List.length_dropLast, hfl]; rfl
        have hn9 : n + 1 ≤ 900 := by have := hk.out.shut; omega
        obtain ⟨fA, hfA⟩ : ∃ v, Hid (a'.fA = v) := ⟨_, rfl⟩
        have hI : Res wr wr.heap.size fA (n + 1) y.i.free := by rw [← hfA.out, ← hfl]; exact hp.out.lists.at_.1
        have hcap : n + 1 ≤ a'.fc := by rw [← hfl]; exact hp.out.caps.1.1
        have hbN := Below.new_ wr (.cells #[.int .i64 r.1, .int .i64 r.2] 67)
        have hpN := hp.out.below hbN
        obtain ⟨b, off, r', rfl, hbb, hx, hc1, hc2⟩ := Res.cells hI (i := n) (by omega)
        obtain rfl : r' = r := by
          have := hx.out
          rw [hf, ← hln.out, List.getElem?_append_right (Nat.le_refl _)] at this
          simpa using this.symm
        have c9 : wr.cell? ⟨g, 9, none⟩ = some (.slice (some ⟨b, off, none⟩) (n + 1) a'.fc) := by
          rw [← hfA.out, ← hfl]; exact hp.out.row.cell rfl
        have c9N : (wr.alloc (.cells #[.int .i64 r'.1, .int .i64 r'.2] 67)).cell? ⟨g, 9, none⟩ = some (.slice (some ⟨b, off, none⟩) (n + 1) a'.fc) := by
          rw [← hfA.out, ← hfl]; exact hpN.row.cell rfl
        have f9 := hpN.row.free 9
        obtain ⟨h4, hb4, hC4⟩ := PlIs.popped (c := n) hpN hfA.out (Nat.le_refl _) hdl (by simp)
        have hgne : g ≠ wr.heap.size := by have := hp.out.row.lt; omega
        have hbr : base ≤ wr.heap.size := Nat.le_trans hp.out.gb (Nat.le_of_lt hp.out.row.lt)
        have hBW := Lib.hid ((hbN.mono hbr).trans hb4)
        have hCW := Lib.hid ((carry_below (own := plOwn g a') hbN).trans hC4)
        have hS := spent_any base g _ _ r' _ h4 (by show y.p.dead.length ≤ 1000; rw [hk.out.dead]; exact hd)
        have hsb : y.drop1.spentB r' = y.spentB r' := rfl
        rw [hsb] at hS
        have hz0 : ((wr.alloc (.cells #[.int .i64 r'.1, .int .i64 r'.2] 67)).setCell ⟨g, 9, none⟩ (.slice (some ⟨b, off, none⟩) n n)).heap[wr.heap.size]? = some (.cells #[.int .i64 r'.1, .int .i64 r'.2] 67 (0, 0)) := (Below.heap_setCell _ _ _ _ (fun e => hgne e.symm)).trans (heap_alloc_new wr _)
        have z0 : ((wr.alloc (.cells #[.int .i64 r'.1, .int .i64 r'.2] 67)).setCell ⟨g, 9, none⟩ (.slice (some ⟨b, off, none⟩) n n)).cell? ⟨wr.heap.size, 0, none⟩ = some (.int .i64 r'.1) := by simp only [World.cell?, hz0]; rfl
        have z1 : ((wr.alloc (.cells #[.int .i64 r'.1, .int .i64 r'.2] 67)).setCell ⟨g, 9, none⟩ (.slice (some ⟨b, off, none⟩) n n)).cell? ⟨wr.heap.size, 1, none⟩ = some (.int .i64 r'.2) := by simp only [World.cell?, hz0]; rfl
        have hst := pops_snoc hf
        have hks := popKeep_step hk.out hf
        have i1 : IntKind.i64.wrap ((n : Int) + 1 - 1) = (n : Int) := by rw [show (n : Int) + 1 - 1 = n by omega]; exact IntWalk.i64_in _ (by omega)
        have i2 : ((n : Int) + 1 - 1) = (n : Int) := by omega
        have mF : freeAt g wr = n + 1 := freeAt_is c9
        clear hsb hI hpN hb4 hC4 hbN
        go_upto_region 5 with fail
        cases hsp : y.spentB r'
        · rw [hsp] at hS hst
          rw [if_neg (by simp)] at hst
          have HY : Hid (x.ask = y.drop1.outs x.p.caller r'.1) := by
            show _ = _
            rw [HA.out, hpo.out, hst, hk.out.caller]
            exact if_pos rfl
          clear hst hsp hks
          go_wp2_with fail
          refine hS.mono ?_
          rintro e w5 ⟨rfl, hb5⟩
          have h5 := h4.below hb5
          have hB5 := Lib.hid (((hb1.trans hb.out).trans hBW.out).trans (hb5.mono (Nat.le_trans h4.gb (Nat.le_of_lt h4.row.lt))))
          have hC5 := Lib.hid (((hC1.trans hc.out).trans hCW.out).trans (carry_below hb5))
          have lz : wr.heap.size < ((wr.alloc (.cells #[.int .i64 r'.1, .int .i64 r'.2] 67)).setCell ⟨g, 9, none⟩ (.slice (some ⟨b, off, none⟩) n n)).heap.size := by simp [World.setCell]
          have y0 : w5.cell? ⟨wr.heap.size, 0, none⟩ = some (.int .i64 r'.1) := (hb5.cell (p := ⟨wr.heap.size, 0, none⟩) lz).trans z0
          have y1 : w5.cell? ⟨wr.heap.size, 1, none⟩ = some (.int .i64 r'.2) := (hb5.cell (p := ⟨wr.heap.size, 1, none⟩) lz).trans z1
          have y19 : w5.cell? ⟨g, 19, none⟩ = some (.int .i64 x.p.caller) := by rw [← hk.out.caller]; exact h5.row.cell rfl
          have hdr : Below w5.heap.size w5 w5.drew := ⟨rfl, rfl, rfl, Nat.le_refl _, fun _ _ => rfl⟩
          have hdrb := hdr.mono (Nat.le_trans h5.gb (Nat.le_of_lt h5.row.lt))
          have HO := out_any base g _ _ x.p.caller r'.1 w5.drew (h5.below hdr) (by show y.p.rep.length ≤ 900; rw [hk.out.rep]; omega) (by show y.i.out.length ≤ 1000; rw [hk.out.out]; exact ho)
          clear h4 h5 hb5 lz z0 z1 hz0 hS hBW hCW c9 c9N f9 hc1 hc2 hpo hp hb hc hb1 hC1
          go_upto_region 6 with fail
          refine wp_region_held_drew (S := (fun _ => True)) (by kernel_rfl) ?_ (fun hHeld => ?_)
          · (try dsimp only); first | done | (trivial)
          first
           | (refine wpAnyH_take (i := 0) (v := ?_) rfl (by kernel_rfl) (by kernel_rfl) (by kernel_rfl) (fun _ _ _ h => h) (Or.inl ⟨by rfl, ?_⟩) hHeld ?_; rotate_left; (intro wq hSw; (try dsimp only at hSw); go_simp; done))
           | (refine wpAnyH_take (i := 0) (v := ?_) rfl (by kernel_rfl) (by kernel_rfl) (by kernel_rfl) (fun _ _ _ h => h) (Or.inl ⟨by rfl, ?_⟩) hHeld ?_; rotate_left; (intro wq hSw; (try dsimp only at hSw); go_simp; with_reducible rfl))
           | refine wpAnyH_take (i := 0) (v := undef) rfl (by kernel_rfl) (by kernel_rfl) (by kernel_rfl) (fun _ _ _ h => h) (Or.inr ⟨by rfl, rfl⟩) hHeld ?_
          try simp only [Act.put, List.getElem_toArray, List.getElem_cons_succ, List.getElem_cons_zero, List.setIfInBounds_toArray, List.set_cons_zero, List.set_cons_succ]
          first
           | (refine wpAnyH_take (i := 1) (v := ?_) rfl (by kernel_rfl) (by kernel_rfl) (by kernel_rfl) (fun _ _ _ h => h) (Or.inl ⟨by rfl, ?_⟩) hHeld ?_; rotate_left; (intro wq hSw; (try dsimp only at hSw); go_simp; done))
           | (refine wpAnyH_take (i := 1) (v := ?_) rfl (by kernel_rfl) (by kernel_rfl) (by kernel_rfl) (fun _ _ _ h => h) (Or.inl ⟨by rfl, ?_⟩) hHeld ?_; rotate_left; (intro wq hSw; (try dsimp only at hSw); go_simp; with_reducible rfl))
           | refine wpAnyH_take (i := 1) (v := undef) rfl (by kernel_rfl) (by kernel_rfl) (by kernel_rfl) (fun _ _ _ h => h) (Or.inr ⟨by rfl, rfl⟩) hHeld ?_
          try simp only [Act.put, List.getElem_toArray, List.getElem_cons_succ, List.getElem_cons_zero, List.setIfInBounds_toArray, List.set_cons_zero, List.set_cons_succ]
          first
           | (refine wpAnyH_take (i := 6) (v := ?_) rfl (by kernel_rfl) (by kernel_rfl) (by kernel_rfl) (fun _ _ _ h => h) (Or.inl ⟨by rfl, ?_⟩) hHeld ?_; rotate_left; (intro wq hSw; (try dsimp only at hSw); go_simp; done))
           | (refine wpAnyH_take (i := 6) (v := ?_) rfl (by kernel_rfl) (by kernel_rfl) (by kernel_rfl) (fun _ _ _ h => h) (Or.inl ⟨by rfl, ?_⟩) hHeld ?_; rotate_left; (intro wq hSw; (try dsimp only at hSw); go_simp; with_reducible rfl))
           | refine wpAnyH_take (i := 6) (v := undef) rfl (by kernel_rfl) (by kernel_rfl) (by kernel_rfl) (fun _ _ _ h => h) (Or.inr ⟨by rfl, rfl⟩) hHeld ?_
          try simp only [Act.put, List.getElem_toArray, List.getElem_cons_succ, List.getElem_cons_zero, List.setIfInBounds_toArray, List.set_cons_zero, List.set_cons_succ]
          first
           | (refine wpAnyH_take (i := 2) (v := ?_) rfl (by kernel_rfl) (by kernel_rfl) (by kernel_rfl) (fun _ _ _ h => h) (Or.inl ⟨by rfl, ?_⟩) hHeld ?_; rotate_left; (intro wq hSw; (try dsimp only at hSw); go_simp; done))
           | (refine wpAnyH_take (i := 2) (v := ?_) rfl (by kernel_rfl) (by kernel_rfl) (by kernel_rfl) (fun _ _ _ h => h) (Or.inl ⟨by rfl, ?_⟩) hHeld ?_; rotate_left; (intro wq hSw; (try dsimp only at hSw); go_simp; with_reducible rfl))
           | refine wpAnyH_take (i := 2) (v := undef) rfl (by kernel_rfl) (by kernel_rfl) (by kernel_rfl) (fun _ _ _ h => h) (Or.inr ⟨by rfl, rfl⟩) hHeld ?_
          try simp only [Act.put, List.getElem_toArray, List.getElem_cons_succ, List.getElem_cons_zero, List.setIfInBounds_toArray, List.set_cons_zero, List.set_cons_succ]
          first
           | (refine wpAnyH_take (i := 3) (v := ?_) rfl (by kernel_rfl) (by kernel_rfl) (by kernel_rfl) (fun _ _ _ h => h) (Or.inl ⟨by rfl, ?_⟩) hHeld ?_; rotate_left; (intro wq hSw; (try dsimp only at hSw); go_simp; done))
           | (refine wpAnyH_take (i := 3) (v := ?_) rfl (by kernel_rfl) (by kernel_rfl) (by kernel_rfl) (fun _ _ _ h => h) (Or.inl ⟨by rfl, ?_⟩) hHeld ?_; rotate_left; (intro wq hSw; (try dsimp only at hSw); go_simp; with_reducible rfl))
           | refine wpAnyH_take (i := 3) (v := undef) rfl (by kernel_rfl) (by kernel_rfl) (by kernel_rfl) (fun _ _ _ h => h) (Or.inr ⟨by rfl, rfl⟩) hHeld ?_
          try simp only [Act.put, List.getElem_toArray, List.getElem_cons_succ, List.getElem_cons_zero, List.setIfInBounds_toArray, List.set_cons_zero, List.set_cons_succ]
          first
           | (refine wpAnyH_take (i := 4) (v := ?_) rfl (by kernel_rfl) (by kernel_rfl) (by kernel_rfl) (fun _ _ _ h => h) (Or.inl ⟨by rfl, ?_⟩) hHeld ?_; rotate_left; (intro wq hSw; (try dsimp only at hSw); go_simp; done))
           | (refine wpAnyH_take (i := 4) (v := ?_) rfl (by kernel_rfl) (by kernel_rfl) (by kernel_rfl) (fun _ _ _ h => h) (Or.inl ⟨by rfl, ?_⟩) hHeld ?_; rotate_left; (intro wq hSw; (try dsimp only at hSw); go_simp; with_reducible rfl))
           | refine wpAnyH_take (i := 4) (v := undef) rfl (by kernel_rfl) (by kernel_rfl) (by kernel_rfl) (fun _ _ _ h => h) (Or.inr ⟨by rfl, rfl⟩) hHeld ?_
          try simp only [Act.put, List.getElem_toArray, List.getElem_cons_succ, List.getElem_cons_zero, List.setIfInBounds_toArray, List.set_cons_zero, List.set_cons_succ]
          refine wpAnyH_ready (rs := [5, 7]) (by kernel_rfl) (by simp) ?_
          refine AllReadyH.cons rfl (fun K hK => ?_) ?_
          ·
           go_simp
           refine hK.out _ _ ?_ (fun hHeld => ?_)
           · (try dsimp only); first | done | (trivial)
           clear hK K
           try simp only [Act.put, List.getElem_toArray, List.getElem_cons_succ, List.getElem_cons_zero, List.setIfInBounds_toArray, List.set_cons_zero, List.set_cons_succ]
           refine wpAnyH_ready (rs := [7]) (by kernel_rfl) (by simp) ?_
           refine AllReadyH.cons rfl (fun K hK => ?_) AllReadyH.nil
           go_simp
           refine hK.out _ _ ?_ (fun hHeld => ?_)
           · (try dsimp only); first | done | (trivial)
           clear hK K
           try simp only [Act.put, List.getElem_toArray, List.getElem_cons_succ, List.getElem_cons_zero, List.setIfInBounds_toArray, List.set_cons_zero, List.set_cons_succ]
           refine wpAnyH_ready (rs := [8]) (by kernel_rfl) (by simp) ?_
           refine AllReadyH.cons rfl (fun K hK => ?_) AllReadyH.nil
           go_simp; go_at_call 65; refine HO.mono ?_; rintro e w6 ⟨a6, rfl, h6, hb6, hC6⟩; try go_wp2_with fail
           refine hK.out _ _ ?_ (fun hHeld => ?_)
           · (try dsimp only); first | done | (trivial)
           clear hK K
           try simp only [Act.put, List.getElem_toArray, List.getElem_cons_succ, List.getElem_cons_zero, List.setIfInBounds_toArray, List.set_cons_zero, List.set_cons_succ]
           refine wpAnyH_done (by kernel_rfl) ?_ _
           clear hHeld; go_wp2_with fail; go_end0; rw [HY.out]; exact ⟨a6, rfl, h6, (hB5.out.trans hdrb).trans hb6, (hC5.out.trans (carry_below hdr)).trans hC6⟩
          refine AllReadyH.cons rfl (fun K hK => ?_) AllReadyH.nil
          go_simp
          refine hK.out _ _ ?_ (fun hHeld => ?_)
          · (try dsimp only); first | done | (trivial)
          clear hK K
          try simp only [Act.put, List.getElem_toArray, List.getElem_cons_succ, List.getElem_cons_zero, List.setIfInBounds_toArray, List.set_cons_zero, List.set_cons_succ]
          refine wpAnyH_ready (rs := [5]) (by kernel_rfl) (by simp) ?_
          refine AllReadyH.cons rfl (fun K hK => ?_) AllReadyH.nil
          go_simp
          refine hK.out _ _ ?_ (fun hHeld => ?_)
          · (try dsimp only); first | done | (trivial)
          clear hK K
          try simp only [Act.put, List.getElem_toArray, List.getElem_cons_succ, List.getElem_cons_zero, List.setIfInBounds_toArray, List.set_cons_zero, List.set_cons_succ]
          refine wpAnyH_ready (rs := [8]) (by kernel_rfl) (by simp) ?_
          refine AllReadyH.cons rfl (fun K hK => ?_) AllReadyH.nil
          go_simp; go_at_call 65; refine HO.mono ?_; rintro e w6 ⟨a6, rfl, h6, hb6, hC6⟩; try go_wp2_with fail
          refine hK.out _ _ ?_ (fun hHeld => ?_)
          · (try dsimp only); first | done | (trivial)
          clear hK K
          try simp only [Act.put, List.getElem_toArray, List.getElem_cons_succ, List.getElem_cons_zero, List.setIfInBounds_toArray, List.set_cons_zero, List.set_cons_succ]
          refine wpAnyH_done (by kernel_rfl) ?_ _
          clear hHeld; go_wp2_with fail; go_end0; rw [HY.out]; exact ⟨a6, rfl, h6, (hB5.out.trans hdrb).trans hb6, (hC5.out.trans (carry_below hdr)).trans hC6⟩
        · rw [hsp] at hS hst
          rw [if_pos rfl] at hst
          have HP : Hid (x.pops x.i.free.reverse = (y.drop1.shuts [r'.1]).pops (y.drop1.shuts [r'.1]).i.free.reverse) := Lib.hid (hpo.out.trans hst)
          have HKS := Lib.hid hks
          clear hst hsp hks
          go_wp2_with fail
          refine hS.mono ?_
          rintro e w5 ⟨rfl, hb5⟩
          have h5 := h4.below hb5
          have hB5 := Lib.hid ((hb.out.trans hBW.out).trans (hb5.mono (Nat.le_trans h4.gb (Nat.le_of_lt h4.row.lt))))
          have hC5 := Lib.hid ((hc.out.trans hCW.out).trans (carry_below hb5))
          have lz : wr.heap.size < ((wr.alloc (.cells #[.int .i64 r'.1, .int .i64 r'.2] 67)).setCell ⟨g, 9, none⟩ (.slice (some ⟨b, off, none⟩) n n)).heap.size := by simp [World.setCell]
          have y0 : w5.cell? ⟨wr.heap.size, 0, none⟩ = some (.int .i64 r'.1) := (hb5.cell (p := ⟨wr.heap.size, 0, none⟩) lz).trans z0
          have y1 : w5.cell? ⟨wr.heap.size, 1, none⟩ = some (.int .i64 r'.2) := (hb5.cell (p := ⟨wr.heap.size, 1, none⟩) lz).trans z1
          have hbM := Below.new_ w5 (.cells #[.int .i64 r'.1] 3)
          have hsh := shuts_any base g _ _ (some ⟨w5.heap.size, 0, none⟩) 1 1 (w5.heap.size + 1) [r'.1] _ (h5.below hbM) (Ints.new1 w5 r'.1 3) (by show y.p.shut.length + 1 ≤ 1000; have := hk.out.shut; omega)
          have hbrM : base ≤ w5.heap.size := Nat.le_trans h5.gb (Nat.le_of_lt h5.row.lt)
          clear h4 h5 hb5 lz z0 z1 hz0 hS hBW hCW c9 c9N f9 hc1 hc2 hpo hp hb hc
          go_wp2_with fail
          refine hsh.mono ?_
          rintro en w6 ⟨a6, rfl, h6, hb6, hC6⟩
          have q9 : w6.cell? ⟨g, 9, none⟩ = some (.slice a6.fA (y.drop1.shuts [r'.1]).i.free.length a6.fc) := h6.row.cell rfl
          have m6 : freeAt g w6 = n := (freeAt_is q9).trans hdl
          clear q9 hsh
          go_wp2_with fail
          go_roundw
          case rel => exact ⟨_, a6, HKS, HP, Lib.hid h6, Lib.hid ((hB5.out.trans (hbM.mono hbrM)).trans hb6), Lib.hid ((hC5.out.trans (carry_below hbM)).trans hC6)⟩
          case measure => rw [m6, mF]; omega
  · rw [if_pos rfl] at h1
    have hy : x.ask = x.says x.p.caller (-1) 240 := by
      unfold Pol.ask
      rw [if_pos hcl.out]
    have HY := Lib.hid hy
    clear hR hy
    go_wp2_with fail
    go_end0
    rw [HY.out]
    exact ⟨a1, rfl, h1, hb1, hC1⟩
end Go.Proofs.Ythjanhfjehccoaa
