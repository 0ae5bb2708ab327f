/-
  What a pool's gives computes. Conditions: rows of at most 900.
-/
import Derived.Test.YthjanhfjehccoaaPoolGive
namespace Go.Proofs.Ythjanhfjehccoaa
set_option linter.unusedVariables false
set_option linter.unusedSimpArgs false
open Go.RowKit

theorem Ints.rest {w : World} {B b off n : Nat} {v : Int} {l : List Int} (h : Ints w B (some ⟨b, off, none⟩) (n + 1) (v :: l)) : Ints w B (some ⟨b, off + 1, none⟩) n l := by
  obtain ⟨h1, h2⟩ := h
  refine ⟨by simp at h1 ⊢; omega, fun h0 _ => ?_⟩
  obtain ⟨b', off', e, hb, hc⟩ := h2 (by omega) (by omega)
  injection e with e
  injection e with e1 e2
  subst e1 e2
  refine ⟨b, off + 1, rfl, hb, fun j u hu => ?_⟩
  have := hc (j + 1) u (by simpa using hu)
  rwa [show off + (j + 1) = off + 1 + j by omega] at this
theorem ClipRe_any (A : Option Addr) (n c : Nat) (w : World) (hnc : n ≤ c) (hA : A = none → c = 0) (hc : n ≤ 100000) :
    Calls Try.prog 79 #[.slice A n c] w fun e w' => e = .returned (.slice A n n) ∧ w = w' := by
  rcases A with _ | a
  · obtain rfl := hA rfl
    obtain rfl : n = 0 := by omega
    go_enter Try.func79, Try.ntmps79
    go_wp2_with fail
    go_ret
    exact ⟨rfl, rfl⟩
  · clear hA
    go_enter Try.func79, Try.ntmps79
    go_wp2_with fail
    go_ret
    exact ⟨rfl, rfl⟩
theorem wpList_appFullRe (w : World) {ops : Array Oper} {rest : List Oper} {o : Oper} {a : Act} {Q : Exit → Act → World → Prop} (hgd : o.guard = none) (s x : Operand)
    (ho : o.op = .call { callee := .builtin .append, args := #[s, x], argTypes := #[24, 24] })
    (A : Option Addr) (n B : Nat) (l : List Re) (hsv : a.eval s = .slice A n n) (hl : Res w B A n l)
    (B2 : Nat) (A2 : Option Addr) (m c2 : Nat) (l2 : List Re) (hxv : a.eval x = .slice A2 m c2) (hs : Res w B2 A2 m l2) (hm : 0 < m) (hb : n + m ≤ 1000000)
    (h : ∀ A' c' w', OwRe w' w.heap.size A' (n + m) c' (l ++ l2) → w.grownBy w' none → rowOf A' c' = some w.heap.size → wpList Try.prog ops Q rest (a.put o.dst (.slice A' (n + m) c')) w') : wpList Try.prog ops Q (o :: rest) a w := by
  obtain ⟨i0, hi0, hz0, hz1, hz2⟩ := info_parts infoRe
  obtain ⟨A', c', w', hrun, h1, h2, h3⟩ := run_append_full (P := Try.prog) w w.heap.size 24 o.type 67 i0 _ 2 16 Try.underlying24 hi0 hz0 hz1 hz2 rfl (by decide) A n B _ hl.2 B2 A2 m c2 _ hs.2 (encRe_oneCell _) hm (by unfold maxLen; omega) (by omega) (Nat.le_refl _)
  exact wpList_append_run hgd s x 24 ho _ _ _ hsv hxv hrun (h A' c' w' ⟨by rw [List.length_append, hl.1, hs.1], by rw [List.flatMap_append]; exact h1⟩ h2 h3)
theorem step_append_runP {P : Program} {ops : Array Oper} {o : Oper} {a : Act} {w w' : World} {K : Act → World → Prop} {Q : Exit → Act → World → Prop} {E : Prop}
    (hg : o.guard = none) (s x : Operand) (t : TypeId) (ho : o.op = Op.call { callee := Callee.builtin Builtin.append, args := #[s, x], argTypes := #[t, t] })
    (vs vx v : Value) (hsv : a.eval s = vs) (hxv : a.eval x = vx) (hrun : (Builtin.append_ #[t, t] o.type #[vs, vx]).run P w = .ok v w') (h : K (a.put o.dst v) w') :
    if Region.wanted o (yielded ops a.tmps) = true then Oper.wp P o a w K Q else E := by
  have hw : Region.wanted o (yielded ops a.tmps) = true := by simp [Region.wanted, hg]
  rw [if_pos hw]
  unfold Oper.wp execOp
  simp only [ho, resolve, invoke, builtin, Sem.run_bind, Sem.run_pure, Result.andThen_ok, List.map_toArray, List.map_cons, List.map_nil, hsv, hxv, hrun]
  exact h
theorem step_appFullRe {ops : Array Oper} {o : Oper} {a : Act} {w : World} {K : Act → World → Prop} {Q : Exit → Act → World → Prop} {E : Prop} (hgd : o.guard = none) (s x : Operand)
    (ho : o.op = .call { callee := .builtin .append, args := #[s, x], argTypes := #[24, 24] })
    (A : Option Addr) (n B : Nat) (l : List Re) (hsv : a.eval s = .slice A n n) (hl : Res w B A n l)
    (B2 : Nat) (A2 : Option Addr) (m c2 : Nat) (l2 : List Re) (hxv : a.eval x = .slice A2 m c2) (hs : Res w B2 A2 m l2) (hm : 0 < m) (hb : n + m ≤ 1000000)
    (h : ∀ A' c' w', OwRe w' w.heap.size A' (n + m) c' (l ++ l2) → w.grownBy w' none → rowOf A' c' = some w.heap.size → K (a.put o.dst (.slice A' (n + m) c')) w') :
    if Region.wanted o (yielded ops a.tmps) = true then Oper.wp Try.prog o a w K Q else E := by
  obtain ⟨i0, hi0, hz0, hz1, hz2⟩ := info_parts infoRe
  obtain ⟨A', c', w', hrun, h1, h2, h3⟩ := run_append_full (P := Try.prog) w w.heap.size 24 o.type 67 i0 _ 2 16 Try.underlying24 hi0 hz0 hz1 hz2 rfl (by decide) A n B _ hl.2 B2 A2 m c2 _ hs.2 (encRe_oneCell _) hm (by unfold maxLen; omega) (by omega) (Nat.le_refl _)
  exact step_append_runP hgd s x 24 ho _ _ _ hsv hxv hrun (h A' c' w' ⟨by rw [List.length_append, hl.1, hs.1], by rw [List.flatMap_append]; exact h1⟩ h2 h3)
theorem step_appFullI {ops : Array Oper} {o : Oper} {a : Act} {w : World} {K : Act → World → Prop} {Q : Exit → Act → World → Prop} {E : Prop} (hgd : o.guard = none) (s x : Operand)
    (ho : o.op = .call { callee := .builtin .append, args := #[s, x], argTypes := #[25, 25] })
    (A : Option Addr) (n B : Nat) (l : List Int) (hsv : a.eval s = .slice A n n) (hl : Ints w B A n l)
    (B2 : Nat) (A2 : Option Addr) (m c2 : Nat) (l2 : List Int) (hxv : a.eval x = .slice A2 m c2) (hs : Ints w B2 A2 m l2) (hm : 0 < m) (hb : n + m ≤ 1000000)
    (h : ∀ A' c' w', OwI w' w.heap.size 3 A' (n + m) c' (l ++ l2) → w.grownBy w' none → rowOf A' c' = some w.heap.size → K (a.put o.dst (.slice A' (n + m) c')) w') :
    if Region.wanted o (yielded ops a.tmps) = true then Oper.wp Try.prog o a w K Q else E := by
  obtain ⟨i0, hi0, hz0, hz1, hz2⟩ := info_parts infoI
  obtain ⟨A', c', w', hrun, h1, h2, h3⟩ := run_append_full (P := Try.prog) w w.heap.size 25 o.type 3 i0 (.int .i64 0) 1 8 Try.underlying25 hi0 hz0 hz1 hz2 rfl (by decide) A n B _ hl B2 A2 m c2 _ hs (int_oneCell _) hm (by unfold maxLen; omega) (by omega) (Nat.le_refl _)
  exact step_append_runP hgd s x 25 ho _ _ _ hsv hxv hrun (h A' c' w' (by unfold OwI; rw [List.map_append]; exact h1) h2 h3)
/-- An idle one that came: a pool's row stored to. -/
theorem PlIs.came [Inhabited Ex] {base g : Nat} {W W1 w2 : World} {x : Pol} {a : PlA} {sock : Int} {A' : Option Addr} {c' : Nat} (h0 : PlIs base W g x a) (hb1 : Below W.heap.size W W1)
    (ho2 : OwRe w2 W1.heap.size A' (x.i.free.length + 1) c' (x.i.free ++ [(sock, x.p.clock)])) (hg2 : W1.grownBy w2 none) (hr2 : rowOf A' c' = some W1.heap.size) :
    PlRow w2 g x a ∧ ∃ b, PlIs base (w2.setCell ⟨g, 9, none⟩ (.slice A' (x.i.free.length + 1) c')) g { x with i := { x.i with free := x.i.free ++ [(sock, x.p.clock)] } } b ∧ Below base W (w2.setCell ⟨g, 9, none⟩ (.slice A' (x.i.free.length + 1) c')) ∧ Carry (plOwn g a) (plOwn g b) W (w2.setCell ⟨g, 9, none⟩ (.slice A' (x.i.free.length + 1) c')) := by
  have h1 := h0.below hb1
  have hbase : base ≤ W.heap.size := Nat.le_trans h0.gb (Nat.le_of_lt h0.row.lt)
  have hb2 : Below W1.heap.size W1 w2 := ⟨hg2.os, hg2.tape, hg2.output, hg2.size, fun b hb => hg2.block b hb (by simp)⟩
  have h2 := h1.below hb2
  have hlists : Stay (fun q => q ∉ plOwn g a) w2 (PlLists { x with i := { x.i with free := x.i.free ++ [(sock, x.p.clock)] } } { a with fA := A', fc := c' }) := by
    intro w'' hs hb
    have old := h2.lists w'' hs hb
    have new := stay_sl ho2.2 hr2 (fun hq => by have := own_lt h1 _ hq; omega) w'' hs hb
    refine ⟨?_, old.2.1, old.2.2.1, old.2.2.2⟩
    show Res w'' w''.heap.size A' (x.i.free ++ [(sock, x.p.clock)]).length (x.i.free ++ [(sock, x.p.clock)])
    rw [List.length_append]
    exact ⟨by simp, new⟩
  have hA : A' = none → c' = 0 := fun e => by
    rcases ho2.2.2.2.2 with h0 | ⟨q, cur, e2, _⟩
    · exact h0
    · rw [e] at e2; cases e2
  obtain ⟨h3, hb3, hc3⟩ := h2.store (y := { x with i := { x.i with free := x.i.free ++ [(sock, x.p.clock)] } }) (b := { a with fA := A', fc := c' }) 9 (.slice A' (x.i.free.length + 1) c') (by unfold plCells; simp) rfl rfl rfl rfl rfl rfl hlists
    ⟨⟨by rw [List.length_append]; exact ho2.2.2.1, hA⟩, h2.caps.2.1, h2.caps.2.2⟩
  have hbw : Below base W w2 := (hb1.mono hbase).trans (hb2.mono (by have := hb1.size; omega))
  exact ⟨h2.row, _, h3, hbw.trans hb3, ((carry_below hb1).trans (carry_below hb2)).trans hc3⟩
set_option maxRecDepth 100000 in
set_option maxHeartbeats 4000000 in
theorem gives_any [Inhabited Ex] (base g : Nat) (x : Pol) (a : PlA) (sock : Int) (w : World) (h : PlIs base w g x a) (hn : x.p.rep.length ≤ 900) (hsn : x.p.shut.length ≤ 900) (ho : x.i.out.length ≤ 1000) (hf : x.i.free.length ≤ 1000) (hln : x.i.line.length ≤ 1000) :
    Calls Try.prog 73 #[.pointer (some ⟨g, 0, none⟩), .int .i64 sock] w fun en w' => PlPost base g a (x.gives sock) w en w' := by
  have c11 : w.cell? ⟨g, 11, none⟩ = some (.slice a.lA x.i.line.length a.lc) := h.row.cell rfl
  have hbase : base ≤ w.heap.size := Nat.le_trans h.gb (Nat.le_of_lt h.row.lt)
  cases hl : x.i.line with
  | cons who l =>
    have hg : x.gives sock = ({ x with i := { x.i with line := l } } : Pol).outs who sock := by unfold Pol.gives; rw [hl]
    rw [hg]
    rw [hl] at c11 hln
    have hlI := h.lists.at_.2.2.1
    rw [hl] at hlI
    obtain ⟨b, off, hlA, hb, hc⟩ := hlI.2 (by simp) (by omega)
    have c0 := hc 0 _ rfl
    rw [hlA] at c11
    rw [Nat.add_zero] at c0
    have hcap := h.caps.2.2.1
    rw [hl] at hcap
    simp only [List.length_cons] at c11 hln hcap
    have f11 := h.row.free 11
    have l2 : 1 ≤ l.length + 1 := by omega
    have l3 : (1 : Int) ≤ ((l.length : Nat) : Int) + 1 := by omega
    have l4 : decide ((0 : Int) < ((l.length : Nat) : Int) + 1) = true := decide_eq_true (by omega)
    clear hc hlI hg
    go_enter Try.func73, Try.ntmps73
    go_upto_region 4 with fail
    have hlists : Stay (fun q => q ∉ plOwn g a) w (PlLists { x with i := { x.i with line := l } } { a with lA := (if a.lc = 1 then (some (⟨b, off, none⟩ : Addr)) else some ⟨b, off + 1, none⟩), lc := a.lc - 1 }) := by
      intro w'' hs hb
      have old := h.lists w'' hs hb
      refine ⟨old.1, old.2.1, ?_, old.2.2.2⟩
      have h5 := old.2.2.1
      rw [hl, hlA] at h5
      show Ints w'' w''.heap.size (if a.lc = 1 then (some (⟨b, off, none⟩ : Addr)) else some ⟨b, off + 1, none⟩) l.length l
      by_cases hc1 : a.lc = 1
      · obtain rfl : l = [] := List.eq_nil_of_length_eq_zero (by omega)
        exact Ints.nil_ _ _ _
      · rw [if_neg hc1]
        exact Ints.rest h5
    have hst : ∀ (nA : Option Addr) (nc : Nat), (if a.lc = 1 then (some (⟨b, off, none⟩ : Addr)) else some ⟨b, off + 1, none⟩) = nA → a.lc - 1 = nc → PlIs base (w.setCell ⟨g, 11, none⟩ (.slice nA l.length nc)) g { x with i := { x.i with line := l } } { a with lA := nA, lc := nc } ∧ Below base w (w.setCell ⟨g, 11, none⟩ (.slice nA l.length nc)) ∧ Carry (plOwn g a) (plOwn g { a with lA := nA, lc := nc }) w (w.setCell ⟨g, 11, none⟩ (.slice nA l.length nc)) := by
      rintro nA nc rfl rfl
      exact h.store (y := { x with i := { x.i with line := l } }) (b := { a with lA := (if a.lc = 1 then (some (⟨b, off, none⟩ : Addr)) else some ⟨b, off + 1, none⟩), lc := a.lc - 1 }) 11 _ (by unfold plCells; simp) rfl rfl rfl rfl rfl rfl hlists
        ⟨h.caps.1, h.caps.2.1, ⟨by show l.length ≤ a.lc - 1; omega, fun e => by
          have e' : (if a.lc = 1 then (some (⟨b, off, none⟩ : Addr)) else some ⟨b, off + 1, none⟩) = none := e
          split at e' <;> cases e'⟩⟩
    clear hlists
    go_wp2_with fail
    · have h3 := hst (some ⟨b, off, none⟩) 0 (if_pos (by assumption)) (by omega)
      refine (out_any base g _ _ who sock _ h3.1 hn ho).mono ?_
      rintro e w4 ⟨a4, rfl, h4, hb4, hc4⟩
      clear c11 c0 f11 l2 l3 l4 hst hlA hcap
      go_wp2_with fail
      go_end0
      exact ⟨a4, rfl, h4, h3.2.1.trans hb4, h3.2.2.trans hc4⟩
    · have h3 := hst (some ⟨b, off + 1, none⟩) (a.lc - 1) (if_neg (by assumption)) rfl
      refine (out_any base g _ _ who sock _ h3.1 hn ho).mono ?_
      rintro e w4 ⟨a4, rfl, h4, hb4, hc4⟩
      clear c11 c0 f11 l2 l3 l4 hst hlA hcap
      go_wp2_with fail
      go_end0
      exact ⟨a4, rfl, h4, h3.2.1.trans hb4, h3.2.2.trans hc4⟩
  | nil =>
    rw [hl] at c11
    have c1 : w.cell? ⟨g, 1, none⟩ = some (.int .i64 x.i.cf.2.1) := h.row.cell rfl
    have c9 : w.cell? ⟨g, 9, none⟩ = some (.slice a.fA x.i.free.length a.fc) := h.row.cell rfl
    have c17 : w.cell? ⟨g, 17, none⟩ = some (.int .i64 x.p.clock) := h.row.cell rfl
    by_cases hi : (x.i.free.length : Int) < x.i.cf.2.1
    · have hg : x.gives sock = { x with i := { x.i with free := x.i.free ++ [(sock, x.p.clock)] } } := by unfold Pol.gives; rw [hl]; simp only; rw [if_pos hi]
      rw [hg]
      have d1 : decide (((x.i.free.length : Nat) : Int) < x.i.cf.2.1) = true := decide_eq_true hi
      clear hi hg
      go_enter Try.func73, Try.ntmps73
      go_upto_region 5 with fail
      go_quiet (fail)
      go_upto_region 6 with fail
      rename_i nq
      have h0 := h.drewN nq
      have hB0 : Below base w (w.drewN nq) := ⟨rfl, rfl, rfl, Nat.le_refl _, fun _ _ => rfl⟩
      have hC0 : Carry (plOwn g a) (plOwn g a) w (w.drewN nq) := carry_below ⟨rfl, rfl, rfl, Nat.le_refl _, fun _ _ => rfl⟩
      clear c11 c1 c9 c17 d1 h
      obtain ⟨W, hW⟩ : ∃ W, w.drewN nq = W := ⟨_, rfl⟩
      rw [hW] at h0 hB0 hC0 ⊢
      clear hW
      have hb1 := Below.new_ W (.cells #[.int .i64 sock, .int .i64 x.p.clock] 67)
      have hl1 := Res.new1 W W.heap.size rfl (sock, x.p.clock) 67
      have h1 := h0.below hb1
      have hf1 := h1.lists.at_.1
      have c9 : W.cell? ⟨g, 9, none⟩ = some (.slice a.fA x.i.free.length a.fc) := h0.row.cell rfl
      have c17 : W.cell? ⟨g, 17, none⟩ = some (.int .i64 x.p.clock) := h0.row.cell rfl
      have e9 : (W.alloc (.cells #[.int .i64 sock, .int .i64 x.p.clock] 67)).cell? ⟨g, 9, none⟩ = some (.slice a.fA x.i.free.length a.fc) := h1.row.cell rfl
      have e17 : (W.alloc (.cells #[.int .i64 sock, .int .i64 x.p.clock] 67)).cell? ⟨g, 17, none⟩ = some (.int .i64 x.p.clock) := h1.row.cell rfl
      have hC := h0.caps.1
      have hb1d : Below W.heap.size W (W.alloc (.cells #[.int .i64 sock, .int .i64 x.p.clock] 67)).drew := ⟨hb1.os, hb1.tape, hb1.output, hb1.size, hb1.block⟩
      refine wp_region_held_drew (S := (fun wx => wx.cell? ⟨g, 17, none⟩ = some (.int .i64 x.p.clock))) (by kernel_rfl) ?_ (fun hHeld => ?_)
      · (try dsimp only); first | done | ((first | exact c17 | exact e17 | exact s17 | exact t17))
      first
       | (refine wpAnyH_take (i := 0) (v := ?_) rfl (by kernel_rfl) (by kernel_rfl) (by kernel_rfl) (fun _ _ _ h => h) (Or.inl ⟨by rfl, ?_⟩) hHeld ?_; rotate_left; (intro wq hSw; (try dsimp only at hSw); go_simp; done))
       | (refine wpAnyH_take (i := 0) (v := ?_) rfl (by kernel_rfl) (by kernel_rfl) (by kernel_rfl) (fun _ _ _ h => h) (Or.inl ⟨by rfl, ?_⟩) hHeld ?_; rotate_left; (intro wq hSw; (try dsimp only at hSw); go_simp; with_reducible rfl))
       | refine wpAnyH_take (i := 0) (v := undef) rfl (by kernel_rfl) (by kernel_rfl) (by kernel_rfl) (fun _ _ _ h => h) (Or.inr ⟨by rfl, rfl⟩) hHeld ?_
      try simp only [Act.put, List.getElem_toArray, List.getElem_cons_succ, List.getElem_cons_zero, List.setIfInBounds_toArray, List.set_cons_zero, List.set_cons_succ]
      first
       | (refine wpAnyH_take (i := 1) (v := ?_) rfl (by kernel_rfl) (by kernel_rfl) (by kernel_rfl) (fun _ _ _ h => h) (Or.inl ⟨by rfl, ?_⟩) hHeld ?_; rotate_left; (intro wq hSw; (try dsimp only at hSw); go_simp; done))
       | (refine wpAnyH_take (i := 1) (v := ?_) rfl (by kernel_rfl) (by kernel_rfl) (by kernel_rfl) (fun _ _ _ h => h) (Or.inl ⟨by rfl, ?_⟩) hHeld ?_; rotate_left; (intro wq hSw; (try dsimp only at hSw); go_simp; with_reducible rfl))
       | refine wpAnyH_take (i := 1) (v := undef) rfl (by kernel_rfl) (by kernel_rfl) (by kernel_rfl) (fun _ _ _ h => h) (Or.inr ⟨by rfl, rfl⟩) hHeld ?_
      try simp only [Act.put, List.getElem_toArray, List.getElem_cons_succ, List.getElem_cons_zero, List.setIfInBounds_toArray, List.set_cons_zero, List.set_cons_succ]
      first
       | (refine wpAnyH_take (i := 7) (v := ?_) rfl (by kernel_rfl) (by kernel_rfl) (by kernel_rfl) (fun _ _ _ h => h) (Or.inl ⟨by rfl, ?_⟩) hHeld ?_; rotate_left; (intro wq hSw; (try dsimp only at hSw); go_simp; done))
       | (refine wpAnyH_take (i := 7) (v := ?_) rfl (by kernel_rfl) (by kernel_rfl) (by kernel_rfl) (fun _ _ _ h => h) (Or.inl ⟨by rfl, ?_⟩) hHeld ?_; rotate_left; (intro wq hSw; (try dsimp only at hSw); go_simp; with_reducible rfl))
       | refine wpAnyH_take (i := 7) (v := undef) rfl (by kernel_rfl) (by kernel_rfl) (by kernel_rfl) (fun _ _ _ h => h) (Or.inr ⟨by rfl, rfl⟩) hHeld ?_
      try simp only [Act.put, List.getElem_toArray, List.getElem_cons_succ, List.getElem_cons_zero, List.setIfInBounds_toArray, List.set_cons_zero, List.set_cons_succ]
      first
       | (refine wpAnyH_take (i := 8) (v := ?_) rfl (by kernel_rfl) (by kernel_rfl) (by kernel_rfl) (fun _ _ _ h => h) (Or.inl ⟨by rfl, ?_⟩) hHeld ?_; rotate_left; (intro wq hSw; (try dsimp only at hSw); go_simp; done))
       | (refine wpAnyH_take (i := 8) (v := ?_) rfl (by kernel_rfl) (by kernel_rfl) (by kernel_rfl) (fun _ _ _ h => h) (Or.inl ⟨by rfl, ?_⟩) hHeld ?_; rotate_left; (intro wq hSw; (try dsimp only at hSw); go_simp; with_reducible rfl))
       | refine wpAnyH_take (i := 8) (v := undef) rfl (by kernel_rfl) (by kernel_rfl) (by kernel_rfl) (fun _ _ _ h => h) (Or.inr ⟨by rfl, rfl⟩) hHeld ?_
      try simp only [Act.put, List.getElem_toArray, List.getElem_cons_succ, List.getElem_cons_zero, List.setIfInBounds_toArray, List.set_cons_zero, List.set_cons_succ]
      first
       | (refine wpAnyH_take (i := 2) (v := ?_) rfl (by kernel_rfl) (by kernel_rfl) (by kernel_rfl) (fun _ _ _ h => h) (Or.inl ⟨by rfl, ?_⟩) hHeld ?_; rotate_left; (intro wq hSw; (try dsimp only at hSw); go_simp; done))
       | (refine wpAnyH_take (i := 2) (v := ?_) rfl (by kernel_rfl) (by kernel_rfl) (by kernel_rfl) (fun _ _ _ h => h) (Or.inl ⟨by rfl, ?_⟩) hHeld ?_; rotate_left; (intro wq hSw; (try dsimp only at hSw); go_simp; with_reducible rfl))
       | refine wpAnyH_take (i := 2) (v := undef) rfl (by kernel_rfl) (by kernel_rfl) (by kernel_rfl) (fun _ _ _ h => h) (Or.inr ⟨by rfl, rfl⟩) hHeld ?_
      try simp only [Act.put, List.getElem_toArray, List.getElem_cons_succ, List.getElem_cons_zero, List.setIfInBounds_toArray, List.set_cons_zero, List.set_cons_succ]
      first
       | (refine wpAnyH_take (i := 9) (v := ?_) rfl (by kernel_rfl) (by kernel_rfl) (by kernel_rfl) (fun _ _ _ h => h) (Or.inl ⟨by rfl, ?_⟩) hHeld ?_; rotate_left; (intro wq hSw; (try dsimp only at hSw); go_simp; done))
       | (refine wpAnyH_take (i := 9) (v := ?_) rfl (by kernel_rfl) (by kernel_rfl) (by kernel_rfl) (fun _ _ _ h => h) (Or.inl ⟨by rfl, ?_⟩) hHeld ?_; rotate_left; (intro wq hSw; (try dsimp only at hSw); go_simp; with_reducible rfl))
       | refine wpAnyH_take (i := 9) (v := undef) rfl (by kernel_rfl) (by kernel_rfl) (by kernel_rfl) (fun _ _ _ h => h) (Or.inr ⟨by rfl, rfl⟩) hHeld ?_
      try simp only [Act.put, List.getElem_toArray, List.getElem_cons_succ, List.getElem_cons_zero, List.setIfInBounds_toArray, List.set_cons_zero, List.set_cons_succ]
      first
       | (refine wpAnyH_take (i := 3) (v := ?_) rfl (by kernel_rfl) (by kernel_rfl) (by kernel_rfl) (fun _ _ _ h => h) (Or.inl ⟨by rfl, ?_⟩) hHeld ?_; rotate_left; (intro wq hSw; (try dsimp only at hSw); go_simp; done))
       | (refine wpAnyH_take (i := 3) (v := ?_) rfl (by kernel_rfl) (by kernel_rfl) (by kernel_rfl) (fun _ _ _ h => h) (Or.inl ⟨by rfl, ?_⟩) hHeld ?_; rotate_left; (intro wq hSw; (try dsimp only at hSw); go_simp; with_reducible rfl))
       | refine wpAnyH_take (i := 3) (v := undef) rfl (by kernel_rfl) (by kernel_rfl) (by kernel_rfl) (fun _ _ _ h => h) (Or.inr ⟨by rfl, rfl⟩) hHeld ?_
      try simp only [Act.put, List.getElem_toArray, List.getElem_cons_succ, List.getElem_cons_zero, List.setIfInBounds_toArray, List.set_cons_zero, List.set_cons_succ]
      first
       | (refine wpAnyH_take (i := 10) (v := ?_) rfl (by kernel_rfl) (by kernel_rfl) (by kernel_rfl) (fun _ _ _ h => h) (Or.inl ⟨by rfl, ?_⟩) hHeld ?_; rotate_left; (intro wq hSw; (try dsimp only at hSw); go_simp; done))
       | (refine wpAnyH_take (i := 10) (v := ?_) rfl (by kernel_rfl) (by kernel_rfl) (by kernel_rfl) (fun _ _ _ h => h) (Or.inl ⟨by rfl, ?_⟩) hHeld ?_; rotate_left; (intro wq hSw; (try dsimp only at hSw); go_simp; with_reducible rfl))
       | refine wpAnyH_take (i := 10) (v := undef) rfl (by kernel_rfl) (by kernel_rfl) (by kernel_rfl) (fun _ _ _ h => h) (Or.inr ⟨by rfl, rfl⟩) hHeld ?_
      try simp only [Act.put, List.getElem_toArray, List.getElem_cons_succ, List.getElem_cons_zero, List.setIfInBounds_toArray, List.set_cons_zero, List.set_cons_succ]
      first
       | (refine wpAnyH_take (i := 4) (v := ?_) rfl (by kernel_rfl) (by kernel_rfl) (by kernel_rfl) (fun _ _ _ h => h) (Or.inl ⟨by rfl, ?_⟩) hHeld ?_; rotate_left; (intro wq hSw; (try dsimp only at hSw); go_simp; done))
       | (refine wpAnyH_take (i := 4) (v := ?_) rfl (by kernel_rfl) (by kernel_rfl) (by kernel_rfl) (fun _ _ _ h => h) (Or.inl ⟨by rfl, ?_⟩) hHeld ?_; rotate_left; (intro wq hSw; (try dsimp only at hSw); go_simp; with_reducible rfl))
       | refine wpAnyH_take (i := 4) (v := undef) rfl (by kernel_rfl) (by kernel_rfl) (by kernel_rfl) (fun _ _ _ h => h) (Or.inr ⟨by rfl, rfl⟩) hHeld ?_
      try simp only [Act.put, List.getElem_toArray, List.getElem_cons_succ, List.getElem_cons_zero, List.setIfInBounds_toArray, List.set_cons_zero, List.set_cons_succ]
      first
       | (refine wpAnyH_take (i := 11) (v := ?_) rfl (by kernel_rfl) (by kernel_rfl) (by kernel_rfl) (fun _ _ _ h => h) (Or.inl ⟨by rfl, ?_⟩) hHeld ?_; rotate_left; (intro wq hSw; (try dsimp only at hSw); go_simp; done))
       | (refine wpAnyH_take (i := 11) (v := ?_) rfl (by kernel_rfl) (by kernel_rfl) (by kernel_rfl) (fun _ _ _ h => h) (Or.inl ⟨by rfl, ?_⟩) hHeld ?_; rotate_left; (intro wq hSw; (try dsimp only at hSw); go_simp; with_reducible rfl))
       | refine wpAnyH_take (i := 11) (v := undef) rfl (by kernel_rfl) (by kernel_rfl) (by kernel_rfl) (fun _ _ _ h => h) (Or.inr ⟨by rfl, rfl⟩) hHeld ?_
      try simp only [Act.put, List.getElem_toArray, List.getElem_cons_succ, List.getElem_cons_zero, List.setIfInBounds_toArray, List.set_cons_zero, List.set_cons_succ]
      first
       | (refine wpAnyH_take (i := 12) (v := ?_) rfl (by kernel_rfl) (by kernel_rfl) (by kernel_rfl) (fun _ _ _ h => h) (Or.inl ⟨by rfl, ?_⟩) hHeld ?_; rotate_left; (intro wq hSw; (try dsimp only at hSw); have v17 := hSw; go_simp; done))
       | (refine wpAnyH_take (i := 12) (v := ?_) rfl (by kernel_rfl) (by kernel_rfl) (by kernel_rfl) (fun _ _ _ h => h) (Or.inl ⟨by rfl, ?_⟩) hHeld ?_; rotate_left; (intro wq hSw; (try dsimp only at hSw); have v17 := hSw; go_simp; with_reducible rfl))
       | refine wpAnyH_take (i := 12) (v := undef) rfl (by kernel_rfl) (by kernel_rfl) (by kernel_rfl) (fun _ _ _ h => h) (Or.inr ⟨by rfl, rfl⟩) hHeld ?_
      try simp only [Act.put, List.getElem_toArray, List.getElem_cons_succ, List.getElem_cons_zero, List.setIfInBounds_toArray, List.set_cons_zero, List.set_cons_succ]
      first
       | (refine wpAnyH_take (i := 13) (v := ?_) rfl (by kernel_rfl) (by kernel_rfl) (by kernel_rfl) (fun _ _ _ h => h) (Or.inl ⟨by rfl, ?_⟩) hHeld ?_; rotate_left; (intro wq hSw; (try dsimp only at hSw); go_simp; done))
       | (refine wpAnyH_take (i := 13) (v := ?_) rfl (by kernel_rfl) (by kernel_rfl) (by kernel_rfl) (fun _ _ _ h => h) (Or.inl ⟨by rfl, ?_⟩) hHeld ?_; rotate_left; (intro wq hSw; (try dsimp only at hSw); go_simp; with_reducible rfl))
       | refine wpAnyH_take (i := 13) (v := undef) rfl (by kernel_rfl) (by kernel_rfl) (by kernel_rfl) (fun _ _ _ h => h) (Or.inr ⟨by rfl, rfl⟩) hHeld ?_
      try simp only [Act.put, List.getElem_toArray, List.getElem_cons_succ, List.getElem_cons_zero, List.setIfInBounds_toArray, List.set_cons_zero, List.set_cons_succ]
      refine wpAnyH_ready (rs := [5, 14]) (by kernel_rfl) (by simp) ?_
      refine AllReadyH.cons rfl (fun K hK => ?_) ?_
      ·
       go_simp
       refine hK.out _ _ ?_ (fun hHeld => ?_)
       · (try dsimp only); first | done | ((first | exact c17 | exact e17 | exact s17 | exact t17))
       clear hK K
       try simp only [Act.put, List.getElem_toArray, List.getElem_cons_succ, List.getElem_cons_zero, List.setIfInBounds_toArray, List.set_cons_zero, List.set_cons_succ]
       refine wpAnyH_ready (rs := [6, 14]) (by kernel_rfl) (by simp) ?_
       refine AllReadyH.cons rfl (fun K hK => ?_) ?_
       ·
        go_simp; go_at_call 79; refine (ClipRe_any _ _ _ _ hC.1 hC.2 (by omega)).mono ?_; rintro e w9 ⟨rfl, rfl⟩; try go_wp2_with fail
        refine hK.out _ _ ?_ (fun hHeld => ?_)
        · (try dsimp only); first | done | ((first | exact c17 | exact e17 | exact s17 | exact t17))
        clear hK K
        try simp only [Act.put, List.getElem_toArray, List.getElem_cons_succ, List.getElem_cons_zero, List.setIfInBounds_toArray, List.set_cons_zero, List.set_cons_succ]
        refine wpAnyH_ready (rs := [14]) (by kernel_rfl) (by simp) ?_
        refine AllReadyH.cons rfl (fun K hK => ?_) AllReadyH.nil
        go_simp
        refine hK.out _ _ ?_ (fun hHeld => ?_)
        · (try dsimp only); first | done | ((first | exact c17 | exact e17 | exact s17 | exact t17))
        clear hK K
        try simp only [Act.put, List.getElem_toArray, List.getElem_cons_succ, List.getElem_cons_zero, List.setIfInBounds_toArray, List.set_cons_zero, List.set_cons_succ]
        refine wpAnyH_ready (rs := [15]) (by kernel_rfl) (by simp) ?_
        refine AllReadyH.cons rfl (fun K hK => ?_) AllReadyH.nil
        refine step_appFullRe (by rfl) (.tmp 58) (.tmp 66) (by rfl) a.fA x.i.free.length _ x.i.free (by first | (go_simp; done) | rfl) hf1 (W.heap.size + 1) (some ⟨W.heap.size, 0, none⟩) 1 1 [(sock, x.p.clock)] (by first | (go_simp; done) | rfl) hl1 (by omega) (by omega) ?_; intro A' c' w2 ho2 hg2 hr2; obtain ⟨hrow2, b2, h3, hb3, hc3⟩ := h0.came hb1d ho2 hg2 hr2; have f9 := hrow2.free 9; have d9 := hrow2.cell (i := 9) rfl; have s17 := hrow2.cell (i := 17) rfl; have t17 : (w2.setCell ⟨g, 9, none⟩ (.slice A' (x.i.free.length + 1) c')).cell? ⟨g, 17, none⟩ = some (.int .i64 x.p.clock) := h3.row.cell rfl
        refine hK.out _ _ ?_ (fun hHeld => ?_)
        · (try dsimp only); first | done | ((first | exact c17 | exact e17 | exact s17 | exact t17))
        clear hK K
        try simp only [Act.put, List.getElem_toArray, List.getElem_cons_succ, List.getElem_cons_zero, List.setIfInBounds_toArray, List.set_cons_zero, List.set_cons_succ]
        first
         | (refine wpAnyH_take (i := 16) (v := ?_) rfl (by kernel_rfl) (by kernel_rfl) (by kernel_rfl) (fun _ _ _ h => h) (Or.inl ⟨by rfl, ?_⟩) hHeld ?_; rotate_left; (intro wq hSw; (try dsimp only at hSw); go_simp; done))
         | (refine wpAnyH_take (i := 16) (v := ?_) rfl (by kernel_rfl) (by kernel_rfl) (by kernel_rfl) (fun _ _ _ h => h) (Or.inl ⟨by rfl, ?_⟩) hHeld ?_; rotate_left; (intro wq hSw; (try dsimp only at hSw); go_simp; with_reducible rfl))
         | refine wpAnyH_take (i := 16) (v := undef) rfl (by kernel_rfl) (by kernel_rfl) (by kernel_rfl) (fun _ _ _ h => h) (Or.inr ⟨by rfl, rfl⟩) hHeld ?_
        try simp only [Act.put, List.getElem_toArray, List.getElem_cons_succ, List.getElem_cons_zero, List.setIfInBounds_toArray, List.set_cons_zero, List.set_cons_succ]
        first
         | (refine wpAnyH_take (i := 17) (v := ?_) rfl (by kernel_rfl) (by kernel_rfl) (by kernel_rfl) (fun _ _ _ h => h) (Or.inl ⟨by rfl, ?_⟩) hHeld ?_; rotate_left; (intro wq hSw; (try dsimp only at hSw); go_simp; done))
         | (refine wpAnyH_take (i := 17) (v := ?_) rfl (by kernel_rfl) (by kernel_rfl) (by kernel_rfl) (fun _ _ _ h => h) (Or.inl ⟨by rfl, ?_⟩) hHeld ?_; rotate_left; (intro wq hSw; (try dsimp only at hSw); go_simp; with_reducible rfl))
         | refine wpAnyH_take (i := 17) (v := undef) rfl (by kernel_rfl) (by kernel_rfl) (by kernel_rfl) (fun _ _ _ h => h) (Or.inr ⟨by rfl, rfl⟩) hHeld ?_
        try simp only [Act.put, List.getElem_toArray, List.getElem_cons_succ, List.getElem_cons_zero, List.setIfInBounds_toArray, List.set_cons_zero, List.set_cons_succ]
        first
         | (refine wpAnyH_take (i := 18) (v := ?_) rfl (by kernel_rfl) (by kernel_rfl) (by kernel_rfl) (fun _ _ _ h => h) (Or.inl ⟨by rfl, ?_⟩) hHeld ?_; rotate_left; (intro wq hSw; (try dsimp only at hSw); go_simp; done))
         | (refine wpAnyH_take (i := 18) (v := ?_) rfl (by kernel_rfl) (by kernel_rfl) (by kernel_rfl) (fun _ _ _ h => h) (Or.inl ⟨by rfl, ?_⟩) hHeld ?_; rotate_left; (intro wq hSw; (try dsimp only at hSw); go_simp; with_reducible rfl))
         | refine wpAnyH_take (i := 18) (v := undef) rfl (by kernel_rfl) (by kernel_rfl) (by kernel_rfl) (fun _ _ _ h => h) (Or.inr ⟨by rfl, rfl⟩) hHeld ?_
        try simp only [Act.put, List.getElem_toArray, List.getElem_cons_succ, List.getElem_cons_zero, List.setIfInBounds_toArray, List.set_cons_zero, List.set_cons_succ]
        refine wpAnyH_ready (rs := [19]) (by kernel_rfl) (by simp) ?_
        refine AllReadyH.cons rfl (fun K hK => ?_) AllReadyH.nil
        go_simp
        refine hK.out _ _ ?_ (fun hHeld => ?_)
        · (try dsimp only); first | done | ((first | exact c17 | exact e17 | exact s17 | exact t17))
        clear hK K
        try simp only [Act.put, List.getElem_toArray, List.getElem_cons_succ, List.getElem_cons_zero, List.setIfInBounds_toArray, List.set_cons_zero, List.set_cons_succ]
        refine wpAnyH_done (by kernel_rfl) ?_ _
        clear hHeld; go_wp2_with fail; go_end0; rw [hl] at h3; exact ⟨b2, rfl, h3, hB0.trans hb3, hC0.trans hc3⟩
       refine AllReadyH.cons rfl (fun K hK => ?_) AllReadyH.nil
       go_simp
       refine hK.out _ _ ?_ (fun hHeld => ?_)
       · (try dsimp only); first | done | ((first | exact c17 | exact e17 | exact s17 | exact t17))
       clear hK K
       try simp only [Act.put, List.getElem_toArray, List.getElem_cons_succ, List.getElem_cons_zero, List.setIfInBounds_toArray, List.set_cons_zero, List.set_cons_succ]
       refine wpAnyH_ready (rs := [6]) (by kernel_rfl) (by simp) ?_
       refine AllReadyH.cons rfl (fun K hK => ?_) AllReadyH.nil
       go_simp; go_at_call 79; refine (ClipRe_any _ _ _ _ hC.1 hC.2 (by omega)).mono ?_; rintro e w9 ⟨rfl, rfl⟩; try go_wp2_with fail
       refine hK.out _ _ ?_ (fun hHeld => ?_)
       · (try dsimp only); first | done | ((first | exact c17 | exact e17 | exact s17 | exact t17))
       clear hK K
       try simp only [Act.put, List.getElem_toArray, List.getElem_cons_succ, List.getElem_cons_zero, List.setIfInBounds_toArray, List.set_cons_zero, List.set_cons_succ]
       refine wpAnyH_ready (rs := [15]) (by kernel_rfl) (by simp) ?_
       refine AllReadyH.cons rfl (fun K hK => ?_) AllReadyH.nil
       refine step_appFullRe (by rfl) (.tmp 58) (.tmp 66) (by rfl) a.fA x.i.free.length _ x.i.free (by first | (go_simp; done) | rfl) hf1 (W.heap.size + 1) (some ⟨W.heap.size, 0, none⟩) 1 1 [(sock, x.p.clock)] (by first | (go_simp; done) | rfl) hl1 (by omega) (by omega) ?_; intro A' c' w2 ho2 hg2 hr2; obtain ⟨hrow2, b2, h3, hb3, hc3⟩ := h0.came hb1d ho2 hg2 hr2; have f9 := hrow2.free 9; have d9 := hrow2.cell (i := 9) rfl; have s17 := hrow2.cell (i := 17) rfl; have t17 : (w2.setCell ⟨g, 9, none⟩ (.slice A' (x.i.free.length + 1) c')).cell? ⟨g, 17, none⟩ = some (.int .i64 x.p.clock) := h3.row.cell rfl
       refine hK.out _ _ ?_ (fun hHeld => ?_)
       · (try dsimp only); first | done | ((first | exact c17 | exact e17 | exact s17 | exact t17))
       clear hK K
       try simp only [Act.put, List.getElem_toArray, List.getElem_cons_succ, List.getElem_cons_zero, List.setIfInBounds_toArray, List.set_cons_zero, List.set_cons_succ]
       first
        | (refine wpAnyH_take (i := 16) (v := ?_) rfl (by kernel_rfl) (by kernel_rfl) (by kernel_rfl) (fun _ _ _ h => h) (Or.inl ⟨by rfl, ?_⟩) hHeld ?_; rotate_left; (intro wq hSw; (try dsimp only at hSw); go_simp; done))
        | (refine wpAnyH_take (i := 16) (v := ?_) rfl (by kernel_rfl) (by kernel_rfl) (by kernel_rfl) (fun _ _ _ h => h) (Or.inl ⟨by rfl, ?_⟩) hHeld ?_; rotate_left; (intro wq hSw; (try dsimp only at hSw); go_simp; with_reducible rfl))
        | refine wpAnyH_take (i := 16) (v := undef) rfl (by kernel_rfl) (by kernel_rfl) (by kernel_rfl) (fun _ _ _ h => h) (Or.inr ⟨by rfl, rfl⟩) hHeld ?_
       try simp only [Act.put, List.getElem_toArray, List.getElem_cons_succ, List.getElem_cons_zero, List.setIfInBounds_toArray, List.set_cons_zero, List.set_cons_succ]
       first
        | (refine wpAnyH_take (i := 17) (v := ?_) rfl (by kernel_rfl) (by kernel_rfl) (by kernel_rfl) (fun _ _ _ h => h) (Or.inl ⟨by rfl, ?_⟩) hHeld ?_; rotate_left; (intro wq hSw; (try dsimp only at hSw); go_simp; done))
        | (refine wpAnyH_take (i := 17) (v := ?_) rfl (by kernel_rfl) (by kernel_rfl) (by kernel_rfl) (fun _ _ _ h => h) (Or.inl ⟨by rfl, ?_⟩) hHeld ?_; rotate_left; (intro wq hSw; (try dsimp only at hSw); go_simp; with_reducible rfl))
        | refine wpAnyH_take (i := 17) (v := undef) rfl (by kernel_rfl) (by kernel_rfl) (by kernel_rfl) (fun _ _ _ h => h) (Or.inr ⟨by rfl, rfl⟩) hHeld ?_
       try simp only [Act.put, List.getElem_toArray, List.getElem_cons_succ, List.getElem_cons_zero, List.setIfInBounds_toArray, List.set_cons_zero, List.set_cons_succ]
       first
        | (refine wpAnyH_take (i := 18) (v := ?_) rfl (by kernel_rfl) (by kernel_rfl) (by kernel_rfl) (fun _ _ _ h => h) (Or.inl ⟨by rfl, ?_⟩) hHeld ?_; rotate_left; (intro wq hSw; (try dsimp only at hSw); go_simp; done))
        | (refine wpAnyH_take (i := 18) (v := ?_) rfl (by kernel_rfl) (by kernel_rfl) (by kernel_rfl) (fun _ _ _ h => h) (Or.inl ⟨by rfl, ?_⟩) hHeld ?_; rotate_left; (intro wq hSw; (try dsimp only at hSw); go_simp; with_reducible rfl))
        | refine wpAnyH_take (i := 18) (v := undef) rfl (by kernel_rfl) (by kernel_rfl) (by kernel_rfl) (fun _ _ _ h => h) (Or.inr ⟨by rfl, rfl⟩) hHeld ?_
       try simp only [Act.put, List.getElem_toArray, List.getElem_cons_succ, List.getElem_cons_zero, List.setIfInBounds_toArray, List.set_cons_zero, List.set_cons_succ]
       refine wpAnyH_ready (rs := [19]) (by kernel_rfl) (by simp) ?_
       refine AllReadyH.cons rfl (fun K hK => ?_) AllReadyH.nil
       go_simp
       refine hK.out _ _ ?_ (fun hHeld => ?_)
       · (try dsimp only); first | done | ((first | exact c17 | exact e17 | exact s17 | exact t17))
       clear hK K
       try simp only [Act.put, List.getElem_toArray, List.getElem_cons_succ, List.getElem_cons_zero, List.setIfInBounds_toArray, List.set_cons_zero, List.set_cons_succ]
       refine wpAnyH_done (by kernel_rfl) ?_ _
       clear hHeld; go_wp2_with fail; go_end0; rw [hl] at h3; exact ⟨b2, rfl, h3, hB0.trans hb3, hC0.trans hc3⟩
      refine AllReadyH.cons rfl (fun K hK => ?_) AllReadyH.nil
      go_simp
      refine hK.out _ _ ?_ (fun hHeld => ?_)
      · (try dsimp only); first | done | ((first | exact c17 | exact e17 | exact s17 | exact t17))
      clear hK K
      try simp only [Act.put, List.getElem_toArray, List.getElem_cons_succ, List.getElem_cons_zero, List.setIfInBounds_toArray, List.set_cons_zero, List.set_cons_succ]
      refine wpAnyH_ready (rs := [5]) (by kernel_rfl) (by simp) ?_
      refine AllReadyH.cons rfl (fun K hK => ?_) AllReadyH.nil
      go_simp
      refine hK.out _ _ ?_ (fun hHeld => ?_)
      · (try dsimp only); first | done | ((first | exact c17 | exact e17 | exact s17 | exact t17))
      clear hK K
      try simp only [Act.put, List.getElem_toArray, List.getElem_cons_succ, List.getElem_cons_zero, List.setIfInBounds_toArray, List.set_cons_zero, List.set_cons_succ]
      refine wpAnyH_ready (rs := [6]) (by kernel_rfl) (by simp) ?_
      refine AllReadyH.cons rfl (fun K hK => ?_) AllReadyH.nil
      go_simp; go_at_call 79; refine (ClipRe_any _ _ _ _ hC.1 hC.2 (by omega)).mono ?_; rintro e w9 ⟨rfl, rfl⟩; try go_wp2_with fail
      refine hK.out _ _ ?_ (fun hHeld => ?_)
      · (try dsimp only); first | done | ((first | exact c17 | exact e17 | exact s17 | exact t17))
      clear hK K
      try simp only [Act.put, List.getElem_toArray, List.getElem_cons_succ, List.getElem_cons_zero, List.setIfInBounds_toArray, List.set_cons_zero, List.set_cons_succ]
      refine wpAnyH_ready (rs := [15]) (by kernel_rfl) (by simp) ?_
      refine AllReadyH.cons rfl (fun K hK => ?_) AllReadyH.nil
      refine step_appFullRe (by rfl) (.tmp 58) (.tmp 66) (by rfl) a.fA x.i.free.length _ x.i.free (by first | (go_simp; done) | rfl) hf1 (W.heap.size + 1) (some ⟨W.heap.size, 0, none⟩) 1 1 [(sock, x.p.clock)] (by first | (go_simp; done) | rfl) hl1 (by omega) (by omega) ?_; intro A' c' w2 ho2 hg2 hr2; obtain ⟨hrow2, b2, h3, hb3, hc3⟩ := h0.came hb1d ho2 hg2 hr2; have f9 := hrow2.free 9; have d9 := hrow2.cell (i := 9) rfl; have s17 := hrow2.cell (i := 17) rfl; have t17 : (w2.setCell ⟨g, 9, none⟩ (.slice A' (x.i.free.length + 1) c')).cell? ⟨g, 17, none⟩ = some (.int .i64 x.p.clock) := h3.row.cell rfl
      refine hK.out _ _ ?_ (fun hHeld => ?_)
      · (try dsimp only); first | done | ((first | exact c17 | exact e17 | exact s17 | exact t17))
      clear hK K
      try simp only [Act.put, List.getElem_toArray, List.getElem_cons_succ, List.getElem_cons_zero, List.setIfInBounds_toArray, List.set_cons_zero, List.set_cons_succ]
      first
       | (refine wpAnyH_take (i := 16) (v := ?_) rfl (by kernel_rfl) (by kernel_rfl) (by kernel_rfl) (fun _ _ _ h => h) (Or.inl ⟨by rfl, ?_⟩) hHeld ?_; rotate_left; (intro wq hSw; (try dsimp only at hSw); go_simp; done))
       | (refine wpAnyH_take (i := 16) (v := ?_) rfl (by kernel_rfl) (by kernel_rfl) (by kernel_rfl) (fun _ _ _ h => h) (Or.inl ⟨by rfl, ?_⟩) hHeld ?_; rotate_left; (intro wq hSw; (try dsimp only at hSw); go_simp; with_reducible rfl))
       | refine wpAnyH_take (i := 16) (v := undef) rfl (by kernel_rfl) (by kernel_rfl) (by kernel_rfl) (fun _ _ _ h => h) (Or.inr ⟨by rfl, rfl⟩) hHeld ?_
      try simp only [Act.put, List.getElem_toArray, List.getElem_cons_succ, List.getElem_cons_zero, List.setIfInBounds_toArray, List.set_cons_zero, List.set_cons_succ]
      first
       | (refine wpAnyH_take (i := 17) (v := ?_) rfl (by kernel_rfl) (by kernel_rfl) (by kernel_rfl) (fun _ _ _ h => h) (Or.inl ⟨by rfl, ?_⟩) hHeld ?_; rotate_left; (intro wq hSw; (try dsimp only at hSw); go_simp; done))
       | (refine wpAnyH_take (i := 17) (v := ?_) rfl (by kernel_rfl) (by kernel_rfl) (by kernel_rfl) (fun _ _ _ h => h) (Or.inl ⟨by rfl, ?_⟩) hHeld ?_; rotate_left; (intro wq hSw; (try dsimp only at hSw); go_simp; with_reducible rfl))
       | refine wpAnyH_take (i := 17) (v := undef) rfl (by kernel_rfl) (by kernel_rfl) (by kernel_rfl) (fun _ _ _ h => h) (Or.inr ⟨by rfl, rfl⟩) hHeld ?_
      try simp only [Act.put, List.getElem_toArray, List.getElem_cons_succ, List.getElem_cons_zero, List.setIfInBounds_toArray, List.set_cons_zero, List.set_cons_succ]
      first
       | (refine wpAnyH_take (i := 18) (v := ?_) rfl (by kernel_rfl) (by kernel_rfl) (by kernel_rfl) (fun _ _ _ h => h) (Or.inl ⟨by rfl, ?_⟩) hHeld ?_; rotate_left; (intro wq hSw; (try dsimp only at hSw); go_simp; done))
       | (refine wpAnyH_take (i := 18) (v := ?_) rfl (by kernel_rfl) (by kernel_rfl) (by kernel_rfl) (fun _ _ _ h => h) (Or.inl ⟨by rfl, ?_⟩) hHeld ?_; rotate_left; (intro wq hSw; (try dsimp only at hSw); go_simp; with_reducible rfl))
       | refine wpAnyH_take (i := 18) (v := undef) rfl (by kernel_rfl) (by kernel_rfl) (by kernel_rfl) (fun _ _ _ h => h) (Or.inr ⟨by rfl, rfl⟩) hHeld ?_
      try simp only [Act.put, List.getElem_toArray, List.getElem_cons_succ, List.getElem_cons_zero, List.setIfInBounds_toArray, List.set_cons_zero, List.set_cons_succ]
      refine wpAnyH_ready (rs := [19]) (by kernel_rfl) (by simp) ?_
      refine AllReadyH.cons rfl (fun K hK => ?_) AllReadyH.nil
      go_simp
      refine hK.out _ _ ?_ (fun hHeld => ?_)
      · (try dsimp only); first | done | ((first | exact c17 | exact e17 | exact s17 | exact t17))
      clear hK K
      try simp only [Act.put, List.getElem_toArray, List.getElem_cons_succ, List.getElem_cons_zero, List.setIfInBounds_toArray, List.set_cons_zero, List.set_cons_succ]
      refine wpAnyH_done (by kernel_rfl) ?_ _
      clear hHeld; go_wp2_with fail; go_end0; rw [hl] at h3; exact ⟨b2, rfl, h3, hB0.trans hb3, hC0.trans hc3⟩
    · have hg : x.gives sock = x.shuts [sock] := by unfold Pol.gives; rw [hl]; simp only; rw [if_neg hi]
      rw [hg]
      have d1 : decide (((x.i.free.length : Nat) : Int) < x.i.cf.2.1) = false := decide_eq_false hi
      clear hi hg
      go_enter Try.func73, Try.ntmps73
      go_upto_region 5 with fail
      go_quiet (fail)
      rename_i nq
      have h0 := h.drewN nq
      have hB0 : Below base w (w.drewN nq) := ⟨rfl, rfl, rfl, Nat.le_refl _, fun _ _ => rfl⟩
      have hC0 : Carry (plOwn g a) (plOwn g a) w (w.drewN nq) := carry_below ⟨rfl, rfl, rfl, Nat.le_refl _, fun _ _ => rfl⟩
      clear c11 c1 c9 c17 d1 h
      obtain ⟨W, hW⟩ : ∃ W, w.drewN nq = W := ⟨_, rfl⟩
      rw [hW] at h0 hB0 hC0 ⊢
      clear hW
      have hb1 := Below.new_ W (.cells #[.int .i64 sock] 3)
      have hl1 : Ints (W.alloc (.cells #[.int .i64 sock] 3)) (W.heap.size + 1) (some ⟨W.heap.size, 0, none⟩) 1 [sock] := Ints.new1 W sock 3
      have h1 := h0.below hb1
      have hb1' := hb1.mono (show base ≤ W.heap.size by have := h0.row.lt; have := h0.gb; omega)
      go_wp2_with fail
      refine (shuts_any base g x a (some ⟨W.heap.size, 0, none⟩) 1 1 (W.heap.size + 1) [sock] _ h1 hl1 (by omega)).mono ?_
      rintro e w4 ⟨a4, rfl, h4, hb4, hc4⟩
      go_wp2_with fail
      go_end0
      exact ⟨a4, rfl, h4, (hB0.trans hb1').trans hb4, (hC0.trans (carry_below hb1)).trans hc4⟩
end Go.Proofs.Ythjanhfjehccoaa
