/-
  The walk of the statement CacheSwaps. Conditions: none.
-/
import Derived.Test.YtpdbibejocajhaaKnWakes
import Derived.Test.YtpdbibejocajhaaMeet
import Derived.Test.YtpdbibejocajhaaKnLaws
namespace Go.Proofs.Ytpdbibejocajhaa
set_option linter.unusedVariables false
set_option linter.unusedSimpArgs false
open Go.RowKit Go.Shelf

theorem two_kns {w : World} {g : Nat} {x y : Kn} (hg : w.heap[g]? = some (.cells #[.string x.1, .string x.2.1, .int .i64 x.2.2.1, .int .i64 x.2.2.2, .string y.1, .string y.2.1, .int .i64 y.2.2.1, .int .i64 y.2.2.2] 30 (0, 0))) : Kns w w.heap.size (some ⟨g, 0, none⟩) 2 [x, y] := by
  refine ⟨rfl, rfl, fun _ _ => ⟨g, 0, rfl, (Array.getElem?_eq_some_iff.1 hg).1, fun j u hu => ?_⟩⟩
  rw [cell_of_row w g (0 + j) _ _ (0, 0) hg]
  simpa [encKn] using hu
theorem step_buildKn2 {ops : Array Oper} {o : Oper} {a : Act} {w : World} {K : Act → World → Prop} {Q : Exit → Act → World → Prop} {E : Prop} (hgd : Region.wanted o (yielded ops a.tmps) = true) (t u : Operand)
    (ho : o.op = .buildSlice 22 2 #[(0, t), (1, u)]) (x y : Kn) (hx : a.eval t = .agg #[.string x.1, .string x.2.1, .int .i64 x.2.2.1, .int .i64 x.2.2.2]) (hy : a.eval u = .agg #[.string y.1, .string y.2.1, .int .i64 y.2.2.1, .int .i64 y.2.2.2])
    (h : ∀ A w', Kns w' w'.heap.size A 2 [x, y] → Below w.heap.size w w' → K (a.put o.dst (.slice A 2 2)) w') :
    if Region.wanted o (yielded ops a.tmps) = true then Oper.wp Try.prog o a w K Q else E := by
  rw [if_pos hgd]
  have h2 := h (some ⟨w.heap.size, 0, none⟩) (w.alloc (.cells #[.string x.1, .string x.2.1, .int .i64 x.2.2.1, .int .i64 x.2.2.2, .string y.1, .string y.2.1, .int .i64 y.2.2.1, .int .i64 y.2.2.2] 30)) (by simpa using two_kns (heap_alloc_new w _)) (Below.new_ w _)
  unfold Oper.wp execOp
  simp only [ho, resolve, List.map_toArray, List.map_cons, List.map_nil, hx, hy]
  go_simp
  exact h2
theorem step_buildKnG {ops : Array Oper} {o : Oper} {a : Act} {w : World} {K : Act → World → Prop} {Q : Exit → Act → World → Prop} {E : Prop} (hgd : Region.wanted o (yielded ops a.tmps) = true) (t : Operand)
    (ho : o.op = .buildSlice 22 1 #[(0, t)]) (x : Kn) (hx : a.eval t = .agg #[.string x.1, .string x.2.1, .int .i64 x.2.2.1, .int .i64 x.2.2.2])
    (h : ∀ A w', Kns w' w'.heap.size A 1 [x] → Below w.heap.size w w' → K (a.put o.dst (.slice A 1 1)) w') :
    if Region.wanted o (yielded ops a.tmps) = true then Oper.wp Try.prog o a w K Q else E := by
  rw [if_pos hgd]
  have h2 := h (some ⟨w.heap.size, 0, none⟩) (w.alloc (.cells #[.string x.1, .string x.2.1, .int .i64 x.2.2.1, .int .i64 x.2.2.2] 30)) (by simpa using Kns.new1 w _ rfl x 30) (Below.new_ w _)
  unfold Oper.wp execOp
  simp only [ho, resolve, List.map_toArray, List.map_cons, List.map_nil, hx]
  go_simp
  exact h2
theorem put_at {A : Option Addr} {n c : Nat} {l : List Kn} {A2 : Option Addr} {n2 c2 : Nat} {more : List Kn} {w : World} (hl : Kns w w.heap.size A n l) (hm : Kns w w.heap.size A2 n2 more) (hn : n ≤ 500) (hn2 : n2 ≤ 400) {R : List Kn} {m : Nat} (hR : putK l more = R) (hRm : R.length = m) :
    Calls Try.prog 16 #[.slice A n c, .slice A2 n2 c2] w fun e w' => ∃ A' c', e = .returned (.slice A' m c') ∧ Kns w' w'.heap.size A' m R ∧ Below w.heap.size w w' := by
  subst hR hRm
  refine (PutKn_any A n c l A2 n2 c2 more w hl hm hn hn2).mono ?_
  rintro e w' ⟨A', c', rfl, ho, hb⟩
  exact ⟨A', c', rfl, ho.recs, hb⟩
theorem same_at {A1 A2 : Option Addr} {n c1 c2 B1 B2 : Nat} {R : List Kn} {w : World} (h1 : Kns w B1 A1 n R) (h2 : Kns w B2 A2 n R) (hn : n ≤ 100000) :
    Calls Try.prog 12 #[.slice A1 n c1, .slice A2 n c2] w fun e w' => e = .returned (.bool true) ∧ Below w.heap.size w w' :=
  (rSame11_any A1 A2 n n c1 c2 B1 B2 R R w h1 h2 hn hn).mono fun e w' ⟨a, b⟩ => ⟨by rw [a]; simp, b⟩
structure St2 (w0 w : World) (A : Option Addr) (n : Nat) (l : List Kn) (gx gy : Nat) (x y : Kn) : Prop where
  b : Below w0.heap.size w0 w
  l : Kns w w.heap.size A n l
  x : w.heap[gx]? = some (.cells #[.string x.1, .string x.2.1, .int .i64 x.2.2.1, .int .i64 x.2.2.2] 30 (0, 0))
  y : w.heap[gy]? = some (.cells #[.string y.1, .string y.2.1, .int .i64 y.2.2.1, .int .i64 y.2.2.2] 30 (0, 0))
theorem St2.lx {w0 w : World} {A : Option Addr} {n : Nat} {l : List Kn} {gx gy : Nat} {x y : Kn} (h : St2 w0 w A n l gx gy x y) : gx < w.heap.size := (Array.getElem?_eq_some_iff.1 h.x).1
theorem St2.ly {w0 w : World} {A : Option Addr} {n : Nat} {l : List Kn} {gx gy : Nat} {x y : Kn} (h : St2 w0 w A n l gx gy x y) : gy < w.heap.size := (Array.getElem?_eq_some_iff.1 h.y).1
theorem St2.next {w0 w w' : World} {A : Option Addr} {n : Nat} {l : List Kn} {gx gy : Nat} {x y : Kn} (h : St2 w0 w A n l gx gy x y) (hb : Below w.heap.size w w') : St2 w0 w' A n l gx gy x y :=
  ⟨h.b.trans (hb.mono h.b.size), (h.l.below hb).more hb.size, (hb.block _ h.lx).trans h.x, (hb.block _ h.ly).trans h.y⟩
theorem oneK_nil_srt {l : List Kn} (h : mayK l = true) : Srt l := (mayFrom_srt h).2
set_option maxRecDepth 100000 in
set_option maxHeartbeats 16000000 in
theorem CacheSwaps_walk (A : Option Addr) (n c : Nat) (l : List Kn) (x y : Kn) (w : World) (hl : Kns w w.heap.size A n l) (hn : n ≤ 9223372036854775807) :
    Calls Try.prog 4 #[.slice A n c, .agg #[.string x.1, .string x.2.1, .int .i64 x.2.2.1, .int .i64 x.2.2.2], .agg #[.string y.1, .string y.2.1, .int .i64 y.2.2.1, .int .i64 y.2.2.2]] w fun e w' => e = .returned (.bool true) ∧ Below w.heap.size w w' := by
  have HL := Lib.hid hl.1
  have hst : St2 w ((w.alloc (.cells #[.string x.1, .string x.2.1, .int .i64 x.2.2.1, .int .i64 x.2.2.2] 30)).alloc (.cells #[.string y.1, .string y.2.1, .int .i64 y.2.2.1, .int .i64 y.2.2.2] 30)) A n l w.heap.size (w.heap.size + 1) x y := by
    refine ⟨(Below.new_ w (.cells #[.string x.1, .string x.2.1, .int .i64 x.2.2.1, .int .i64 x.2.2.2] 30)).alloc (by simp) _, ((hl.alloc (Nat.le_refl _) _).alloc (by simp) _).more (by simp; omega), (Below.heap_alloc (w.alloc (.cells #[.string x.1, .string x.2.1, .int .i64 x.2.2.1, .int .i64 x.2.2.2] 30)) (.cells #[.string y.1, .string y.2.1, .int .i64 y.2.2.1, .int .i64 y.2.2.2] 30) w.heap.size (by simp)).trans (heap_alloc_new w _), ?_⟩
    have := heap_alloc_new (w.alloc (.cells #[.string x.1, .string x.2.1, .int .i64 x.2.2.1, .int .i64 x.2.2.2] 30)) (.cells #[.string y.1, .string y.2.1, .int .i64 y.2.2.1, .int .i64 y.2.2.2] 30)
    simpa using this
  go_enter Try.func4, Try.ntmps4
  go_wp2_with fail
  refine (Great11_any _ _ _ l _ hst.l hn).mono ?_
  rintro e w1 ⟨b1, rfl, h60, hb1⟩
  replace hst := hst.next hb1
  clear hb1 hl
  obtain ⟨x0, x1, x2, x3⟩ := kn_cells hst.x
  obtain ⟨y0, y1, y2, y3⟩ := kn_cells hst.y
  cases b1
  · have hn2 : n ≤ 60 := h60 rfl
    clear h60
    have hk := two_kns (heap_alloc_new w1 (.cells #[.string x.1, .string x.2.1, .int .i64 x.2.2.1, .int .i64 x.2.2.2, .string y.1, .string y.2.1, .int .i64 y.2.2.1, .int .i64 y.2.2.2] 30))
    have hb2 := Below.new_ w1 (.cells #[.string x.1, .string x.2.1, .int .i64 x.2.2.1, .int .i64 x.2.2.2, .string y.1, .string y.2.1, .int .i64 y.2.2.1, .int .i64 y.2.2.2] 30)
    go_wp2_with fail
    refine (Great11_any _ 2 2 [x, y] _ hk (by omega)).mono ?_
    rintro e w2 ⟨b2, rfl, _, hb3⟩
    replace hst := hst.next (hb2.trans (hb3.mono hb2.size))
    clear hk hb2 hb3 x0 x1 x2 x3 y0 y1 y2 y3
    cases b2
    · go_wp2_with fail
      refine (rMay_any _ _ _ l _ hst.l (by omega)).mono ?_
      cases hmay : mayK l
      · rintro e w3 ⟨rfl, hb3⟩
        replace hst := hst.next hb3
        clear hb3
        go_wp2_with fail
        refine (wakes11_any _).mono ?_
        rintro e w9 ⟨rfl, hb9⟩
        go_wp2_with fail
        go_ret
        exact ⟨rfl, hst.b.trans (hb9.mono hst.b.size)⟩
      · rintro e w3 ⟨rfl, hb3⟩
        replace hst := hst.next hb3
        clear hb3
        obtain ⟨x0, x1, x2, x3⟩ := kn_cells hst.x
        obtain ⟨y0, y1, y2, y3⟩ := kn_cells hst.y
        cases hxy : (x.1.toList == y.1.toList)
        · have hne : x.1 ≠ y.1 := fun e => by rw [e] at hxy; simp at hxy
          have hR : putK l [x, y] = putK l [y, x] := oneK_comm (oneK_nil_srt hmay) hne
          obtain ⟨R, hR1⟩ : ∃ R, putK l [x, y] = R := ⟨_, rfl⟩
          have HR := Lib.hid hR1
          have HR2 := Lib.hid (hR.symm.trans hR1)
          obtain ⟨m, hm⟩ : ∃ m, R.length = m := ⟨_, rfl⟩
          have HM := Lib.hid hm
          have hmb : m ≤ 62 := by
            have := putK_le [x, y] l
            rw [hR1, hm, HL.out] at this
            simp at this
            omega
          obtain ⟨R1, hR3⟩ : ∃ R1, putK l [x] = R1 := ⟨_, rfl⟩
          have HR1 := Lib.hid hR3
          have HR3 : Hid (putK R1 [y] = R) := (by show _ = _; rw [← hR3, ← hR1]; rfl)
          obtain ⟨m1, hm1⟩ : ∃ m1, R1.length = m1 := ⟨_, rfl⟩
          have HM1 := Lib.hid hm1
          have hmb1 : m1 ≤ 61 := by
            have := putK_le [x] l
            rw [hR3, hm1, HL.out] at this
            simp at this
            omega
          clear hne hR hR1 hm hR3 hm1 hmay x0 x1 x2 x3 y0 y1 y2 y3
          obtain ⟨w4, rfl⟩ : ∃ w4, w4 = w3 := ⟨_, rfl⟩
          obtain ⟨x0, x1, x2, x3⟩ := kn_cells hst.x
          obtain ⟨y0, y1, y2, y3⟩ := kn_cells hst.y
          go_upto_region 3 with fail
          have lX := hst.lx
          have lY := hst.ly
          clear x0 x1 x2 x3 y0 y1 y2 y3
          have hS : Below w4.heap.size w4 w4.drew := (Below.refl _ _).drew
          refine wp_region_held_drew (S := (fun wx => Below w4.heap.size w4 wx)) (by kernel_rfl) ?_ (fun hHeld => ?_)
          · exact hS
          apply wpAnyH_meet6 (fun (_ _ A32 : Option Addr) (_ : Nat) (A37 : Option Addr) (_ : Nat) wx => Kns wx wx.heap.size A32 m R ∧ Kns wx wx.heap.size A37 m R)
          · intro hmeet
            first
              | (refine wpAnyH_take (i := 0) (v := ?_) rfl (by kernel_rfl) (by kernel_rfl) (by kernel_rfl) (fun _ _ _ h => h) (Or.inl ⟨by rfl, ?_⟩) hHeld ?_; rotate_left; (intro wq hSw; (try dsimp only at hSw); go_simp; done))
              | (refine wpAnyH_take (i := 0) (v := ?_) rfl (by kernel_rfl) (by kernel_rfl) (by kernel_rfl) (fun _ _ _ h => h) (Or.inl ⟨by rfl, ?_⟩) hHeld ?_; rotate_left; (intro wq hSw; (try dsimp only at hSw); go_simp; with_reducible rfl))
              | refine wpAnyH_take (i := 0) (v := undef) rfl (by kernel_rfl) (by kernel_rfl) (by kernel_rfl) (fun _ _ _ h => h) (Or.inr ⟨by rfl, rfl⟩) hHeld ?_
            try simp only [Act.put, List.getElem_toArray, List.getElem_cons_succ, List.getElem_cons_zero, List.setIfInBounds_toArray, List.set_cons_zero, List.set_cons_succ]
            first
              | (refine wpAnyH_take (i := 1) (v := ?_) rfl (by kernel_rfl) (by kernel_rfl) (by kernel_rfl) (fun _ _ _ h => h) (Or.inl ⟨by rfl, ?_⟩) hHeld ?_; rotate_left; (intro wq hSw; (try dsimp only at hSw); obtain ⟨v0, v1, v2, v3⟩ := kn_cells ((hSw.block _ lX).trans hst.x); go_simp; done))
              | (refine wpAnyH_take (i := 1) (v := ?_) rfl (by kernel_rfl) (by kernel_rfl) (by kernel_rfl) (fun _ _ _ h => h) (Or.inl ⟨by rfl, ?_⟩) hHeld ?_; rotate_left; (intro wq hSw; (try dsimp only at hSw); obtain ⟨v0, v1, v2, v3⟩ := kn_cells ((hSw.block _ lX).trans hst.x); go_simp; with_reducible rfl))
              | refine wpAnyH_take (i := 1) (v := undef) rfl (by kernel_rfl) (by kernel_rfl) (by kernel_rfl) (fun _ _ _ h => h) (Or.inr ⟨by rfl, rfl⟩) hHeld ?_
            try simp only [Act.put, List.getElem_toArray, List.getElem_cons_succ, List.getElem_cons_zero, List.setIfInBounds_toArray, List.set_cons_zero, List.set_cons_succ]
            first
              | (refine wpAnyH_take (i := 2) (v := ?_) rfl (by kernel_rfl) (by kernel_rfl) (by kernel_rfl) (fun _ _ _ h => h) (Or.inl ⟨by rfl, ?_⟩) hHeld ?_; rotate_left; (intro wq hSw; (try dsimp only at hSw); obtain ⟨v0, v1, v2, v3⟩ := kn_cells ((hSw.block _ lY).trans hst.y); go_simp; done))
              | (refine wpAnyH_take (i := 2) (v := ?_) rfl (by kernel_rfl) (by kernel_rfl) (by kernel_rfl) (fun _ _ _ h => h) (Or.inl ⟨by rfl, ?_⟩) hHeld ?_; rotate_left; (intro wq hSw; (try dsimp only at hSw); obtain ⟨v0, v1, v2, v3⟩ := kn_cells ((hSw.block _ lY).trans hst.y); go_simp; with_reducible rfl))
              | refine wpAnyH_take (i := 2) (v := undef) rfl (by kernel_rfl) (by kernel_rfl) (by kernel_rfl) (fun _ _ _ h => h) (Or.inr ⟨by rfl, rfl⟩) hHeld ?_
            try simp only [Act.put, List.getElem_toArray, List.getElem_cons_succ, List.getElem_cons_zero, List.setIfInBounds_toArray, List.set_cons_zero, List.set_cons_succ]
            first
              | (refine wpAnyH_take (i := 5) (v := ?_) rfl (by kernel_rfl) (by kernel_rfl) (by kernel_rfl) (fun _ _ _ h => h) (Or.inl ⟨by rfl, ?_⟩) hHeld ?_; rotate_left; (intro wq hSw; (try dsimp only at hSw); go_simp; done))
              | (refine wpAnyH_take (i := 5) (v := ?_) rfl (by kernel_rfl) (by kernel_rfl) (by kernel_rfl) (fun _ _ _ h => h) (Or.inl ⟨by rfl, ?_⟩) hHeld ?_; rotate_left; (intro wq hSw; (try dsimp only at hSw); go_simp; with_reducible rfl))
              | refine wpAnyH_take (i := 5) (v := undef) rfl (by kernel_rfl) (by kernel_rfl) (by kernel_rfl) (fun _ _ _ h => h) (Or.inr ⟨by rfl, rfl⟩) hHeld ?_
            try simp only [Act.put, List.getElem_toArray, List.getElem_cons_succ, List.getElem_cons_zero, List.setIfInBounds_toArray, List.set_cons_zero, List.set_cons_succ]
            first
              | (refine wpAnyH_take (i := 6) (v := ?_) rfl (by kernel_rfl) (by kernel_rfl) (by kernel_rfl) (fun _ _ _ h => h) (Or.inl ⟨by rfl, ?_⟩) hHeld ?_; rotate_left; (intro wq hSw; (try dsimp only at hSw); obtain ⟨v0, v1, v2, v3⟩ := kn_cells ((hSw.block _ lY).trans hst.y); go_simp; done))
              | (refine wpAnyH_take (i := 6) (v := ?_) rfl (by kernel_rfl) (by kernel_rfl) (by kernel_rfl) (fun _ _ _ h => h) (Or.inl ⟨by rfl, ?_⟩) hHeld ?_; rotate_left; (intro wq hSw; (try dsimp only at hSw); obtain ⟨v0, v1, v2, v3⟩ := kn_cells ((hSw.block _ lY).trans hst.y); go_simp; with_reducible rfl))
              | refine wpAnyH_take (i := 6) (v := undef) rfl (by kernel_rfl) (by kernel_rfl) (by kernel_rfl) (fun _ _ _ h => h) (Or.inr ⟨by rfl, rfl⟩) hHeld ?_
            try simp only [Act.put, List.getElem_toArray, List.getElem_cons_succ, List.getElem_cons_zero, List.setIfInBounds_toArray, List.set_cons_zero, List.set_cons_succ]
            first
              | (refine wpAnyH_take (i := 7) (v := ?_) rfl (by kernel_rfl) (by kernel_rfl) (by kernel_rfl) (fun _ _ _ h => h) (Or.inl ⟨by rfl, ?_⟩) hHeld ?_; rotate_left; (intro wq hSw; (try dsimp only at hSw); obtain ⟨v0, v1, v2, v3⟩ := kn_cells ((hSw.block _ lX).trans hst.x); go_simp; done))
              | (refine wpAnyH_take (i := 7) (v := ?_) rfl (by kernel_rfl) (by kernel_rfl) (by kernel_rfl) (fun _ _ _ h => h) (Or.inl ⟨by rfl, ?_⟩) hHeld ?_; rotate_left; (intro wq hSw; (try dsimp only at hSw); obtain ⟨v0, v1, v2, v3⟩ := kn_cells ((hSw.block _ lX).trans hst.x); go_simp; with_reducible rfl))
              | refine wpAnyH_take (i := 7) (v := undef) rfl (by kernel_rfl) (by kernel_rfl) (by kernel_rfl) (fun _ _ _ h => h) (Or.inr ⟨by rfl, rfl⟩) hHeld ?_
            try simp only [Act.put, List.getElem_toArray, List.getElem_cons_succ, List.getElem_cons_zero, List.setIfInBounds_toArray, List.set_cons_zero, List.set_cons_succ]
            refine wpAnyH_ready (rs := [3, 8]) (by kernel_rfl) (by simp) ?_
            refine AllReadyH.cons rfl (fun K hK => ?_) ?_
            ·
              refine step_buildKn2 (by rfl) (.tmp 29) (.tmp 30) (by rfl) x y (by rfl) (by rfl) ?_; intro B3 wx h3 hbx; replace hS := hS.trans (hbx.mono hS.size); (try replace h4 := (Recs.below h4 hbx).more hbx.size); (try replace h8 := (Recs.below h8 hbx).more hbx.size); (try replace h9 := (Recs.below h9 hbx).more hbx.size); clear hbx
              refine hK.out _ _ ?_ (fun hHeld => ?_)
              · (try dsimp only); first | done | (exact hS)
              clear hK K
              try simp only [Act.put, List.getElem_toArray, List.getElem_cons_succ, List.getElem_cons_zero, List.setIfInBounds_toArray, List.set_cons_zero, List.set_cons_succ]
              refine wpAnyH_ready (rs := [4, 8]) (by kernel_rfl) (by simp) ?_
              refine AllReadyH.cons rfl (fun K hK => ?_) ?_
              ·
                go_simp; go_at_call 16; refine (put_at ((hst.l.below hS).more hS.size) h3 (by omega) (by omega) HR.out HM.out).mono ?_; rintro e wx ⟨A4, c4, rfl, h4, hbx⟩; replace hS := hS.trans (hbx.mono hS.size); (try replace h3 := (Recs.below h3 hbx).more hbx.size); (try replace h8 := (Recs.below h8 hbx).more hbx.size); (try replace h9 := (Recs.below h9 hbx).more hbx.size); clear hbx; try go_wp2_with fail
                refine hK.out _ _ ?_ (fun hHeld => ?_)
                · (try dsimp only); first | done | (exact hS)
                clear hK K
                try simp only [Act.put, List.getElem_toArray, List.getElem_cons_succ, List.getElem_cons_zero, List.setIfInBounds_toArray, List.set_cons_zero, List.set_cons_succ]
                refine wpAnyH_ready (rs := [8]) (by kernel_rfl) (by simp) ?_
                refine AllReadyH.cons rfl (fun K hK => ?_) AllReadyH.nil
                refine step_buildKn2 (by rfl) (.tmp 34) (.tmp 35) (by rfl) y x (by rfl) (by rfl) ?_; intro B8 wx h8 hbx; replace hS := hS.trans (hbx.mono hS.size); (try replace h3 := (Recs.below h3 hbx).more hbx.size); (try replace h4 := (Recs.below h4 hbx).more hbx.size); (try replace h9 := (Recs.below h9 hbx).more hbx.size); clear hbx
                refine hK.out _ _ ?_ (fun hHeld => ?_)
                · (try dsimp only); first | done | (exact hS)
                clear hK K
                try simp only [Act.put, List.getElem_toArray, List.getElem_cons_succ, List.getElem_cons_zero, List.setIfInBounds_toArray, List.set_cons_zero, List.set_cons_succ]
                refine wpAnyH_ready (rs := [9]) (by kernel_rfl) (by simp) ?_
                refine AllReadyH.cons rfl (fun K hK => ?_) AllReadyH.nil
                go_simp; go_at_call 16; refine (put_at ((hst.l.below hS).more hS.size) h8 (by omega) (by omega) HR2.out HM.out).mono ?_; rintro e wx ⟨A9, c9, rfl, h9, hbx⟩; replace hS := hS.trans (hbx.mono hS.size); (try replace h3 := (Recs.below h3 hbx).more hbx.size); (try replace h4 := (Recs.below h4 hbx).more hbx.size); (try replace h8 := (Recs.below h8 hbx).more hbx.size); clear hbx; try go_wp2_with fail
                refine hK.out _ _ ?_ (fun hHeld => ?_)
                · (try dsimp only); first | done | (exact hS)
                clear hK K
                try simp only [Act.put, List.getElem_toArray, List.getElem_cons_succ, List.getElem_cons_zero, List.setIfInBounds_toArray, List.set_cons_zero, List.set_cons_succ]
                refine wpAnyH_listed (listed' := #[true, true, true, true, true, true, true, true, true, true, false, false, false, false, false, false, false, false, false, false, false, false, false, false, false, false, false, false, false, false]) (by kernel_rfl) ?_
                exact hmeet B3 B8 A4 c4 A9 c9 _ hS ⟨h4, h9⟩
              refine AllReadyH.cons rfl (fun K hK => ?_) AllReadyH.nil
              refine step_buildKn2 (by rfl) (.tmp 34) (.tmp 35) (by rfl) y x (by rfl) (by rfl) ?_; intro B8 wx h8 hbx; replace hS := hS.trans (hbx.mono hS.size); (try replace h3 := (Recs.below h3 hbx).more hbx.size); (try replace h4 := (Recs.below h4 hbx).more hbx.size); (try replace h9 := (Recs.below h9 hbx).more hbx.size); clear hbx
              refine hK.out _ _ ?_ (fun hHeld => ?_)
              · (try dsimp only); first | done | (exact hS)
              clear hK K
              try simp only [Act.put, List.getElem_toArray, List.getElem_cons_succ, List.getElem_cons_zero, List.setIfInBounds_toArray, List.set_cons_zero, List.set_cons_succ]
              refine wpAnyH_ready (rs := [4]) (by kernel_rfl) (by simp) ?_
              refine AllReadyH.cons rfl (fun K hK => ?_) AllReadyH.nil
              go_simp; go_at_call 16; refine (put_at ((hst.l.below hS).more hS.size) h3 (by omega) (by omega) HR.out HM.out).mono ?_; rintro e wx ⟨A4, c4, rfl, h4, hbx⟩; replace hS := hS.trans (hbx.mono hS.size); (try replace h3 := (Recs.below h3 hbx).more hbx.size); (try replace h8 := (Recs.below h8 hbx).more hbx.size); (try replace h9 := (Recs.below h9 hbx).more hbx.size); clear hbx; try go_wp2_with fail
              refine hK.out _ _ ?_ (fun hHeld => ?_)
              · (try dsimp only); first | done | (exact hS)
              clear hK K
              try simp only [Act.put, List.getElem_toArray, List.getElem_cons_succ, List.getElem_cons_zero, List.setIfInBounds_toArray, List.set_cons_zero, List.set_cons_succ]
              refine wpAnyH_ready (rs := [9]) (by kernel_rfl) (by simp) ?_
              refine AllReadyH.cons rfl (fun K hK => ?_) AllReadyH.nil
              go_simp; go_at_call 16; refine (put_at ((hst.l.below hS).more hS.size) h8 (by omega) (by omega) HR2.out HM.out).mono ?_; rintro e wx ⟨A9, c9, rfl, h9, hbx⟩; replace hS := hS.trans (hbx.mono hS.size); (try replace h3 := (Recs.below h3 hbx).more hbx.size); (try replace h4 := (Recs.below h4 hbx).more hbx.size); (try replace h8 := (Recs.below h8 hbx).more hbx.size); clear hbx; try go_wp2_with fail
              refine hK.out _ _ ?_ (fun hHeld => ?_)
              · (try dsimp only); first | done | (exact hS)
              clear hK K
              try simp only [Act.put, List.getElem_toArray, List.getElem_cons_succ, List.getElem_cons_zero, List.setIfInBounds_toArray, List.set_cons_zero, List.set_cons_succ]
              refine wpAnyH_listed (listed' := #[true, true, true, true, true, true, true, true, true, true, false, false, false, false, false, false, false, false, false, false, false, false, false, false, false, false, false, false, false, false]) (by kernel_rfl) ?_
              exact hmeet B3 B8 A4 c4 A9 c9 _ hS ⟨h4, h9⟩
            refine AllReadyH.cons rfl (fun K hK => ?_) AllReadyH.nil
            refine step_buildKn2 (by rfl) (.tmp 34) (.tmp 35) (by rfl) y x (by rfl) (by rfl) ?_; intro B8 wx h8 hbx; replace hS := hS.trans (hbx.mono hS.size); (try replace h3 := (Recs.below h3 hbx).more hbx.size); (try replace h4 := (Recs.below h4 hbx).more hbx.size); (try replace h9 := (Recs.below h9 hbx).more hbx.size); clear hbx
            refine hK.out _ _ ?_ (fun hHeld => ?_)
            · (try dsimp only); first | done | (exact hS)
            clear hK K
            try simp only [Act.put, List.getElem_toArray, List.getElem_cons_succ, List.getElem_cons_zero, List.setIfInBounds_toArray, List.set_cons_zero, List.set_cons_succ]
            refine wpAnyH_ready (rs := [3]) (by kernel_rfl) (by simp) ?_
            refine AllReadyH.cons rfl (fun K hK => ?_) AllReadyH.nil
            refine step_buildKn2 (by rfl) (.tmp 29) (.tmp 30) (by rfl) x y (by rfl) (by rfl) ?_; intro B3 wx h3 hbx; replace hS := hS.trans (hbx.mono hS.size); (try replace h4 := (Recs.below h4 hbx).more hbx.size); (try replace h8 := (Recs.below h8 hbx).more hbx.size); (try replace h9 := (Recs.below h9 hbx).more hbx.size); clear hbx
            refine hK.out _ _ ?_ (fun hHeld => ?_)
            · (try dsimp only); first | done | (exact hS)
            clear hK K
            try simp only [Act.put, List.getElem_toArray, List.getElem_cons_succ, List.getElem_cons_zero, List.setIfInBounds_toArray, List.set_cons_zero, List.set_cons_succ]
            refine wpAnyH_ready (rs := [4]) (by kernel_rfl) (by simp) ?_
            refine AllReadyH.cons rfl (fun K hK => ?_) AllReadyH.nil
            go_simp; go_at_call 16; refine (put_at ((hst.l.below hS).more hS.size) h3 (by omega) (by omega) HR.out HM.out).mono ?_; rintro e wx ⟨A4, c4, rfl, h4, hbx⟩; replace hS := hS.trans (hbx.mono hS.size); (try replace h3 := (Recs.below h3 hbx).more hbx.size); (try replace h8 := (Recs.below h8 hbx).more hbx.size); (try replace h9 := (Recs.below h9 hbx).more hbx.size); clear hbx; try go_wp2_with fail
            refine hK.out _ _ ?_ (fun hHeld => ?_)
            · (try dsimp only); first | done | (exact hS)
            clear hK K
            try simp only [Act.put, List.getElem_toArray, List.getElem_cons_succ, List.getElem_cons_zero, List.setIfInBounds_toArray, List.set_cons_zero, List.set_cons_succ]
            refine wpAnyH_ready (rs := [9]) (by kernel_rfl) (by simp) ?_
            refine AllReadyH.cons rfl (fun K hK => ?_) AllReadyH.nil
            go_simp; go_at_call 16; refine (put_at ((hst.l.below hS).more hS.size) h8 (by omega) (by omega) HR2.out HM.out).mono ?_; rintro e wx ⟨A9, c9, rfl, h9, hbx⟩; replace hS := hS.trans (hbx.mono hS.size); (try replace h3 := (Recs.below h3 hbx).more hbx.size); (try replace h4 := (Recs.below h4 hbx).more hbx.size); (try replace h8 := (Recs.below h8 hbx).more hbx.size); clear hbx; try go_wp2_with fail
            refine hK.out _ _ ?_ (fun hHeld => ?_)
            · (try dsimp only); first | done | (exact hS)
            clear hK K
            try simp only [Act.put, List.getElem_toArray, List.getElem_cons_succ, List.getElem_cons_zero, List.setIfInBounds_toArray, List.set_cons_zero, List.set_cons_succ]
            refine wpAnyH_listed (listed' := #[true, true, true, true, true, true, true, true, true, true, false, false, false, false, false, false, false, false, false, false, false, false, false, false, false, false, false, false, false, false]) (by kernel_rfl) ?_
            exact hmeet B3 B8 A4 c4 A9 c9 _ hS ⟨h4, h9⟩
          · intro A31 A36 A32 c32 A37 c37 w5 hHeld ⟨h4, h9⟩
            have hS := hHeld
            refine wpAnyH_ready (rs := [10]) (by kernel_rfl) (by simp) ?_
            refine AllReadyH.cons rfl (fun K hK => ?_) AllReadyH.nil
            go_simp; go_at_call 12; refine (same_at h4 h9 (by omega)).mono ?_; rintro e wx ⟨rfl, hbx⟩; replace hS := hS.trans (hbx.mono hS.size); clear hbx; try go_wp2_with fail
            refine hK.out _ _ ?_ (fun hHeld => ?_)
            · (try dsimp only); first | done | (exact hS)
            clear hK K
            try simp only [Act.put, List.getElem_toArray, List.getElem_cons_succ, List.getElem_cons_zero, List.setIfInBounds_toArray, List.set_cons_zero, List.set_cons_succ]
            first
              | (refine wpAnyH_take (i := 11) (v := ?_) rfl (by kernel_rfl) (by kernel_rfl) (by kernel_rfl) (fun _ _ _ h => h) (Or.inl ⟨by rfl, ?_⟩) hHeld ?_; rotate_left; (intro wq hSw; (try dsimp only at hSw); go_simp; done))
              | (refine wpAnyH_take (i := 11) (v := ?_) rfl (by kernel_rfl) (by kernel_rfl) (by kernel_rfl) (fun _ _ _ h => h) (Or.inl ⟨by rfl, ?_⟩) hHeld ?_; rotate_left; (intro wq hSw; (try dsimp only at hSw); go_simp; with_reducible rfl))
              | refine wpAnyH_take (i := 11) (v := undef) rfl (by kernel_rfl) (by kernel_rfl) (by kernel_rfl) (fun _ _ _ h => h) (Or.inr ⟨by rfl, rfl⟩) hHeld ?_
            try simp only [Act.put, List.getElem_toArray, List.getElem_cons_succ, List.getElem_cons_zero, List.setIfInBounds_toArray, List.set_cons_zero, List.set_cons_succ]
            first
              | (refine wpAnyH_take (i := 12) (v := ?_) rfl (by kernel_rfl) (by kernel_rfl) (by kernel_rfl) (fun _ _ _ h => h) (Or.inl ⟨by rfl, ?_⟩) hHeld ?_; rotate_left; (intro wq hSw; (try dsimp only at hSw); go_simp; done))
              | (refine wpAnyH_take (i := 12) (v := ?_) rfl (by kernel_rfl) (by kernel_rfl) (by kernel_rfl) (fun _ _ _ h => h) (Or.inl ⟨by rfl, ?_⟩) hHeld ?_; rotate_left; (intro wq hSw; (try dsimp only at hSw); go_simp; with_reducible rfl))
              | refine wpAnyH_take (i := 12) (v := undef) rfl (by kernel_rfl) (by kernel_rfl) (by kernel_rfl) (fun _ _ _ h => h) (Or.inr ⟨by rfl, rfl⟩) hHeld ?_
            try simp only [Act.put, List.getElem_toArray, List.getElem_cons_succ, List.getElem_cons_zero, List.setIfInBounds_toArray, List.set_cons_zero, List.set_cons_succ]
            first
              | (refine wpAnyH_take (i := 13) (v := ?_) rfl (by kernel_rfl) (by kernel_rfl) (by kernel_rfl) (fun _ _ _ h => h) (Or.inl ⟨by rfl, ?_⟩) hHeld ?_; rotate_left; (intro wq hSw; (try dsimp only at hSw); obtain ⟨v0, v1, v2, v3⟩ := kn_cells ((hSw.block _ lX).trans hst.x); go_simp; done))
              | (refine wpAnyH_take (i := 13) (v := ?_) rfl (by kernel_rfl) (by kernel_rfl) (by kernel_rfl) (fun _ _ _ h => h) (Or.inl ⟨by rfl, ?_⟩) hHeld ?_; rotate_left; (intro wq hSw; (try dsimp only at hSw); obtain ⟨v0, v1, v2, v3⟩ := kn_cells ((hSw.block _ lX).trans hst.x); go_simp; with_reducible rfl))
              | refine wpAnyH_take (i := 13) (v := undef) rfl (by kernel_rfl) (by kernel_rfl) (by kernel_rfl) (fun _ _ _ h => h) (Or.inr ⟨by rfl, rfl⟩) hHeld ?_
            try simp only [Act.put, List.getElem_toArray, List.getElem_cons_succ, List.getElem_cons_zero, List.setIfInBounds_toArray, List.set_cons_zero, List.set_cons_succ]
            first
              | (refine wpAnyH_take (i := 16) (v := ?_) rfl (by kernel_rfl) (by kernel_rfl) (by kernel_rfl) (fun _ _ _ h => h) (Or.inl ⟨by rfl, ?_⟩) hHeld ?_; rotate_left; (intro wq hSw; (try dsimp only at hSw); obtain ⟨v0, v1, v2, v3⟩ := kn_cells ((hSw.block _ lY).trans hst.y); go_simp; done))
              | (refine wpAnyH_take (i := 16) (v := ?_) rfl (by kernel_rfl) (by kernel_rfl) (by kernel_rfl) (fun _ _ _ h => h) (Or.inl ⟨by rfl, ?_⟩) hHeld ?_; rotate_left; (intro wq hSw; (try dsimp only at hSw); obtain ⟨v0, v1, v2, v3⟩ := kn_cells ((hSw.block _ lY).trans hst.y); go_simp; with_reducible rfl))
              | refine wpAnyH_take (i := 16) (v := undef) rfl (by kernel_rfl) (by kernel_rfl) (by kernel_rfl) (fun _ _ _ h => h) (Or.inr ⟨by rfl, rfl⟩) hHeld ?_
            try simp only [Act.put, List.getElem_toArray, List.getElem_cons_succ, List.getElem_cons_zero, List.setIfInBounds_toArray, List.set_cons_zero, List.set_cons_succ]
            first
              | (refine wpAnyH_take (i := 19) (v := ?_) rfl (by kernel_rfl) (by kernel_rfl) (by kernel_rfl) (fun _ _ _ h => h) (Or.inl ⟨by rfl, ?_⟩) hHeld ?_; rotate_left; (intro wq hSw; (try dsimp only at hSw); go_simp; done))
              | (refine wpAnyH_take (i := 19) (v := ?_) rfl (by kernel_rfl) (by kernel_rfl) (by kernel_rfl) (fun _ _ _ h => h) (Or.inl ⟨by rfl, ?_⟩) hHeld ?_; rotate_left; (intro wq hSw; (try dsimp only at hSw); go_simp; with_reducible rfl))
              | refine wpAnyH_take (i := 19) (v := undef) rfl (by kernel_rfl) (by kernel_rfl) (by kernel_rfl) (fun _ _ _ h => h) (Or.inr ⟨by rfl, rfl⟩) hHeld ?_
            try simp only [Act.put, List.getElem_toArray, List.getElem_cons_succ, List.getElem_cons_zero, List.setIfInBounds_toArray, List.set_cons_zero, List.set_cons_succ]
            first
              | (refine wpAnyH_take (i := 20) (v := ?_) rfl (by kernel_rfl) (by kernel_rfl) (by kernel_rfl) (fun _ _ _ h => h) (Or.inl ⟨by rfl, ?_⟩) hHeld ?_; rotate_left; (intro wq hSw; (try dsimp only at hSw); obtain ⟨v0, v1, v2, v3⟩ := kn_cells ((hSw.block _ lX).trans hst.x); go_simp; done))
              | (refine wpAnyH_take (i := 20) (v := ?_) rfl (by kernel_rfl) (by kernel_rfl) (by kernel_rfl) (fun _ _ _ h => h) (Or.inl ⟨by rfl, ?_⟩) hHeld ?_; rotate_left; (intro wq hSw; (try dsimp only at hSw); obtain ⟨v0, v1, v2, v3⟩ := kn_cells ((hSw.block _ lX).trans hst.x); go_simp; with_reducible rfl))
              | refine wpAnyH_take (i := 20) (v := undef) rfl (by kernel_rfl) (by kernel_rfl) (by kernel_rfl) (fun _ _ _ h => h) (Or.inr ⟨by rfl, rfl⟩) hHeld ?_
            try simp only [Act.put, List.getElem_toArray, List.getElem_cons_succ, List.getElem_cons_zero, List.setIfInBounds_toArray, List.set_cons_zero, List.set_cons_succ]
            first
              | (refine wpAnyH_take (i := 21) (v := ?_) rfl (by kernel_rfl) (by kernel_rfl) (by kernel_rfl) (fun _ _ _ h => h) (Or.inl ⟨by rfl, ?_⟩) hHeld ?_; rotate_left; (intro wq hSw; (try dsimp only at hSw); obtain ⟨v0, v1, v2, v3⟩ := kn_cells ((hSw.block _ lY).trans hst.y); go_simp; done))
              | (refine wpAnyH_take (i := 21) (v := ?_) rfl (by kernel_rfl) (by kernel_rfl) (by kernel_rfl) (fun _ _ _ h => h) (Or.inl ⟨by rfl, ?_⟩) hHeld ?_; rotate_left; (intro wq hSw; (try dsimp only at hSw); obtain ⟨v0, v1, v2, v3⟩ := kn_cells ((hSw.block _ lY).trans hst.y); go_simp; with_reducible rfl))
              | refine wpAnyH_take (i := 21) (v := undef) rfl (by kernel_rfl) (by kernel_rfl) (by kernel_rfl) (fun _ _ _ h => h) (Or.inr ⟨by rfl, rfl⟩) hHeld ?_
            try simp only [Act.put, List.getElem_toArray, List.getElem_cons_succ, List.getElem_cons_zero, List.setIfInBounds_toArray, List.set_cons_zero, List.set_cons_succ]
            refine wpAnyH_listed (listed' := #[true, true, true, true, true, true, true, true, true, true, true, true, true, true, false, false, true, false, false, true, true, true, false, false, false, false, false, false, false, false]) (by kernel_rfl) ?_
            skip
            clear h4 h9
            apply wpAnyH_meet9 (fun (_ _ : Option Addr) (_ : Nat) (_ A46 : Option Addr) (_ : Nat) (_ A51 : Option Addr) (_ : Nat) wx => Kns wx wx.heap.size A46 m R ∧ Kns wx wx.heap.size A51 m R)
            · intro hmeet
              refine wpAnyH_ready (rs := [14, 17, 22]) (by kernel_rfl) (by simp) ?_
              refine AllReadyH.cons rfl (fun K hK => ?_) ?_
              ·
                refine step_buildKnG (by rfl) (.tmp 41) (by rfl) x (by rfl) ?_; intro B14 wx h14 hbx; replace hS := hS.trans (hbx.mono hS.size); (try replace h15 := (Recs.below h15 hbx).more hbx.size); (try replace h17 := (Recs.below h17 hbx).more hbx.size); (try replace h18 := (Recs.below h18 hbx).more hbx.size); (try replace h22 := (Recs.below h22 hbx).more hbx.size); (try replace h23 := (Recs.below h23 hbx).more hbx.size); clear hbx
                refine hK.out _ _ ?_ (fun hHeld => ?_)
                · (try dsimp only); first | done | (exact hS)
                clear hK K
                try simp only [Act.put, List.getElem_toArray, List.getElem_cons_succ, List.getElem_cons_zero, List.setIfInBounds_toArray, List.set_cons_zero, List.set_cons_succ]
                refine wpAnyH_ready (rs := [15, 17, 22]) (by kernel_rfl) (by simp) ?_
                refine AllReadyH.cons rfl (fun K hK => ?_) ?_
                ·
                  go_simp; go_at_call 16; refine (put_at ((hst.l.below hS).more hS.size) h14 (by omega) (by omega) HR1.out HM1.out).mono ?_; rintro e wx ⟨A15, c15, rfl, h15, hbx⟩; replace hS := hS.trans (hbx.mono hS.size); (try replace h14 := (Recs.below h14 hbx).more hbx.size); (try replace h17 := (Recs.below h17 hbx).more hbx.size); (try replace h18 := (Recs.below h18 hbx).more hbx.size); (try replace h22 := (Recs.below h22 hbx).more hbx.size); (try replace h23 := (Recs.below h23 hbx).more hbx.size); clear hbx; try go_wp2_with fail
                  refine hK.out _ _ ?_ (fun hHeld => ?_)
                  · (try dsimp only); first | done | (exact hS)
                  clear hK K
                  try simp only [Act.put, List.getElem_toArray, List.getElem_cons_succ, List.getElem_cons_zero, List.setIfInBounds_toArray, List.set_cons_zero, List.set_cons_succ]
                  refine wpAnyH_ready (rs := [17, 22]) (by kernel_rfl) (by simp) ?_
                  refine AllReadyH.cons rfl (fun K hK => ?_) ?_
                  ·
                    refine step_buildKnG (by rfl) (.tmp 44) (by rfl) y (by rfl) ?_; intro B17 wx h17 hbx; replace hS := hS.trans (hbx.mono hS.size); (try replace h14 := (Recs.below h14 hbx).more hbx.size); (try replace h15 := (Recs.below h15 hbx).more hbx.size); (try replace h18 := (Recs.below h18 hbx).more hbx.size); (try replace h22 := (Recs.below h22 hbx).more hbx.size); (try replace h23 := (Recs.below h23 hbx).more hbx.size); clear hbx
                    refine hK.out _ _ ?_ (fun hHeld => ?_)
                    · (try dsimp only); first | done | (exact hS)
                    clear hK K
                    try simp only [Act.put, List.getElem_toArray, List.getElem_cons_succ, List.getElem_cons_zero, List.setIfInBounds_toArray, List.set_cons_zero, List.set_cons_succ]
                    refine wpAnyH_ready (rs := [18, 22]) (by kernel_rfl) (by simp) ?_
                    refine AllReadyH.cons rfl (fun K hK => ?_) ?_
                    ·
                      go_simp; go_at_call 16; refine (put_at h15 h17 (by omega) (by omega) HR3.out HM.out).mono ?_; rintro e wx ⟨A18, c18, rfl, h18, hbx⟩; replace hS := hS.trans (hbx.mono hS.size); (try replace h14 := (Recs.below h14 hbx).more hbx.size); (try replace h15 := (Recs.below h15 hbx).more hbx.size); (try replace h17 := (Recs.below h17 hbx).more hbx.size); (try replace h22 := (Recs.below h22 hbx).more hbx.size); (try replace h23 := (Recs.below h23 hbx).more hbx.size); clear hbx; try go_wp2_with fail
                      refine hK.out _ _ ?_ (fun hHeld => ?_)
                      · (try dsimp only); first | done | (exact hS)
                      clear hK K
                      try simp only [Act.put, List.getElem_toArray, List.getElem_cons_succ, List.getElem_cons_zero, List.setIfInBounds_toArray, List.set_cons_zero, List.set_cons_succ]
                      refine wpAnyH_ready (rs := [22]) (by kernel_rfl) (by simp) ?_
                      refine AllReadyH.cons rfl (fun K hK => ?_) AllReadyH.nil
                      refine step_buildKn2 (by rfl) (.tmp 48) (.tmp 49) (by rfl) x y (by rfl) (by rfl) ?_; intro B22 wx h22 hbx; replace hS := hS.trans (hbx.mono hS.size); (try replace h14 := (Recs.below h14 hbx).more hbx.size); (try replace h15 := (Recs.below h15 hbx).more hbx.size); (try replace h17 := (Recs.below h17 hbx).more hbx.size); (try replace h18 := (Recs.below h18 hbx).more hbx.size); (try replace h23 := (Recs.below h23 hbx).more hbx.size); clear hbx
                      refine hK.out _ _ ?_ (fun hHeld => ?_)
                      · (try dsimp only); first | done | (exact hS)
                      clear hK K
                      try simp only [Act.put, List.getElem_toArray, List.getElem_cons_succ, List.getElem_cons_zero, List.setIfInBounds_toArray, List.set_cons_zero, List.set_cons_succ]
                      refine wpAnyH_ready (rs := [23]) (by kernel_rfl) (by simp) ?_
                      refine AllReadyH.cons rfl (fun K hK => ?_) AllReadyH.nil
                      go_simp; go_at_call 16; refine (put_at ((hst.l.below hS).more hS.size) h22 (by omega) (by omega) HR.out HM.out).mono ?_; rintro e wx ⟨A23, c23, rfl, h23, hbx⟩; replace hS := hS.trans (hbx.mono hS.size); (try replace h14 := (Recs.below h14 hbx).more hbx.size); (try replace h15 := (Recs.below h15 hbx).more hbx.size); (try replace h17 := (Recs.below h17 hbx).more hbx.size); (try replace h18 := (Recs.below h18 hbx).more hbx.size); (try replace h22 := (Recs.below h22 hbx).more hbx.size); clear hbx; try go_wp2_with fail
                      refine hK.out _ _ ?_ (fun hHeld => ?_)
                      · (try dsimp only); first | done | (exact hS)
                      clear hK K
                      try simp only [Act.put, List.getElem_toArray, List.getElem_cons_succ, List.getElem_cons_zero, List.setIfInBounds_toArray, List.set_cons_zero, List.set_cons_succ]
                      refine wpAnyH_listed (listed' := #[true, true, true, true, true, true, true, true, true, true, true, true, true, true, true, true, true, true, true, true, true, true, true, true, false, false, false, false, false, false]) (by kernel_rfl) ?_
                      exact hmeet B14 A15 c15 B17 A18 c18 B22 A23 c23 _ hS ⟨h18, h23⟩
                    refine AllReadyH.cons rfl (fun K hK => ?_) AllReadyH.nil
                    refine step_buildKn2 (by rfl) (.tmp 48) (.tmp 49) (by rfl) x y (by rfl) (by rfl) ?_; intro B22 wx h22 hbx; replace hS := hS.trans (hbx.mono hS.size); (try replace h14 := (Recs.below h14 hbx).more hbx.size); (try replace h15 := (Recs.below h15 hbx).more hbx.size); (try replace h17 := (Recs.below h17 hbx).more hbx.size); (try replace h18 := (Recs.below h18 hbx).more hbx.size); (try replace h23 := (Recs.below h23 hbx).more hbx.size); clear hbx
                    refine hK.out _ _ ?_ (fun hHeld => ?_)
                    · (try dsimp only); first | done | (exact hS)
                    clear hK K
                    try simp only [Act.put, List.getElem_toArray, List.getElem_cons_succ, List.getElem_cons_zero, List.setIfInBounds_toArray, List.set_cons_zero, List.set_cons_succ]
                    refine wpAnyH_ready (rs := [18]) (by kernel_rfl) (by simp) ?_
                    refine AllReadyH.cons rfl (fun K hK => ?_) AllReadyH.nil
                    go_simp; go_at_call 16; refine (put_at h15 h17 (by omega) (by omega) HR3.out HM.out).mono ?_; rintro e wx ⟨A18, c18, rfl, h18, hbx⟩; replace hS := hS.trans (hbx.mono hS.size); (try replace h14 := (Recs.below h14 hbx).more hbx.size); (try replace h15 := (Recs.below h15 hbx).more hbx.size); (try replace h17 := (Recs.below h17 hbx).more hbx.size); (try replace h22 := (Recs.below h22 hbx).more hbx.size); (try replace h23 := (Recs.below h23 hbx).more hbx.size); clear hbx; try go_wp2_with fail
                    refine hK.out _ _ ?_ (fun hHeld => ?_)
                    · (try dsimp only); first | done | (exact hS)
                    clear hK K
                    try simp only [Act.put, List.getElem_toArray, List.getElem_cons_succ, List.getElem_cons_zero, List.setIfInBounds_toArray, List.set_cons_zero, List.set_cons_succ]
                    refine wpAnyH_ready (rs := [23]) (by kernel_rfl) (by simp) ?_
                    refine AllReadyH.cons rfl (fun K hK => ?_) AllReadyH.nil
                    go_simp; go_at_call 16; refine (put_at ((hst.l.below hS).more hS.size) h22 (by omega) (by omega) HR.out HM.out).mono ?_; rintro e wx ⟨A23, c23, rfl, h23, hbx⟩; replace hS := hS.trans (hbx.mono hS.size); (try replace h14 := (Recs.below h14 hbx).more hbx.size); (try replace h15 := (Recs.below h15 hbx).more hbx.size); (try replace h17 := (Recs.below h17 hbx).more hbx.size); (try replace h18 := (Recs.below h18 hbx).more hbx.size); (try replace h22 := (Recs.below h22 hbx).more hbx.size); clear hbx; try go_wp2_with fail
                    refine hK.out _ _ ?_ (fun hHeld => ?_)
                    · (try dsimp only); first | done | (exact hS)
                    clear hK K
                    try simp only [Act.put, List.getElem_toArray, List.getElem_cons_succ, List.getElem_cons_zero, List.setIfInBounds_toArray, List.set_cons_zero, List.set_cons_succ]
                    refine wpAnyH_listed (listed' := #[true, true, true, true, true, true, true, true, true, true, true, true, true, true, true, true, true, true, true, true, true, true, true, true, false, false, false, false, false, false]) (by kernel_rfl) ?_
                    exact hmeet B14 A15 c15 B17 A18 c18 B22 A23 c23 _ hS ⟨h18, h23⟩
                  refine AllReadyH.cons rfl (fun K hK => ?_) AllReadyH.nil
                  refine step_buildKn2 (by rfl) (.tmp 48) (.tmp 49) (by rfl) x y (by rfl) (by rfl) ?_; intro B22 wx h22 hbx; replace hS := hS.trans (hbx.mono hS.size); (try replace h14 := (Recs.below h14 hbx).more hbx.size); (try replace h15 := (Recs.below h15 hbx).more hbx.size); (try replace h17 := (Recs.below h17 hbx).more hbx.size); (try replace h18 := (Recs.below h18 hbx).more hbx.size); (try replace h23 := (Recs.below h23 hbx).more hbx.size); clear hbx
                  refine hK.out _ _ ?_ (fun hHeld => ?_)
                  · (try dsimp only); first | done | (exact hS)
                  clear hK K
                  try simp only [Act.put, List.getElem_toArray, List.getElem_cons_succ, List.getElem_cons_zero, List.setIfInBounds_toArray, List.set_cons_zero, List.set_cons_succ]
                  refine wpAnyH_ready (rs := [17]) (by kernel_rfl) (by simp) ?_
                  refine AllReadyH.cons rfl (fun K hK => ?_) AllReadyH.nil
                  refine step_buildKnG (by rfl) (.tmp 44) (by rfl) y (by rfl) ?_; intro B17 wx h17 hbx; replace hS := hS.trans (hbx.mono hS.size); (try replace h14 := (Recs.below h14 hbx).more hbx.size); (try replace h15 := (Recs.below h15 hbx).more hbx.size); (try replace h18 := (Recs.below h18 hbx).more hbx.size); (try replace h22 := (Recs.below h22 hbx).more hbx.size); (try replace h23 := (Recs.below h23 hbx).more hbx.size); clear hbx
                  refine hK.out _ _ ?_ (fun hHeld => ?_)
                  · (try dsimp only); first | done | (exact hS)
                  clear hK K
                  try simp only [Act.put, List.getElem_toArray, List.getElem_cons_succ, List.getElem_cons_zero, List.setIfInBounds_toArray, List.set_cons_zero, List.set_cons_succ]
                  refine wpAnyH_ready (rs := [18]) (by kernel_rfl) (by simp) ?_
                  refine AllReadyH.cons rfl (fun K hK => ?_) AllReadyH.nil
                  go_simp; go_at_call 16; refine (put_at h15 h17 (by omega) (by omega) HR3.out HM.out).mono ?_; rintro e wx ⟨A18, c18, rfl, h18, hbx⟩; replace hS := hS.trans (hbx.mono hS.size); (try replace h14 := (Recs.below h14 hbx).more hbx.size); (try replace h15 := (Recs.below h15 hbx).more hbx.size); (try replace h17 := (Recs.below h17 hbx).more hbx.size); (try replace h22 := (Recs.below h22 hbx).more hbx.size); (try replace h23 := (Recs.below h23 hbx).more hbx.size); clear hbx; try go_wp2_with fail
                  refine hK.out _ _ ?_ (fun hHeld => ?_)
                  · (try dsimp only); first | done | (exact hS)
                  clear hK K
                  try simp only [Act.put, List.getElem_toArray, List.getElem_cons_succ, List.getElem_cons_zero, List.setIfInBounds_toArray, List.set_cons_zero, List.set_cons_succ]
                  refine wpAnyH_ready (rs := [23]) (by kernel_rfl) (by simp) ?_
                  refine AllReadyH.cons rfl (fun K hK => ?_) AllReadyH.nil
                  go_simp; go_at_call 16; refine (put_at ((hst.l.below hS).more hS.size) h22 (by omega) (by omega) HR.out HM.out).mono ?_; rintro e wx ⟨A23, c23, rfl, h23, hbx⟩; replace hS := hS.trans (hbx.mono hS.size); (try replace h14 := (Recs.below h14 hbx).more hbx.size); (try replace h15 := (Recs.below h15 hbx).more hbx.size); (try replace h17 := (Recs.below h17 hbx).more hbx.size); (try replace h18 := (Recs.below h18 hbx).more hbx.size); (try replace h22 := (Recs.below h22 hbx).more hbx.size); clear hbx; try go_wp2_with fail
                  refine hK.out _ _ ?_ (fun hHeld => ?_)
                  · (try dsimp only); first | done | (exact hS)
                  clear hK K
                  try simp only [Act.put, List.getElem_toArray, List.getElem_cons_succ, List.getElem_cons_zero, List.setIfInBounds_toArray, List.set_cons_zero, List.set_cons_succ]
                  refine wpAnyH_listed (listed' := #[true, true, true, true, true, true, true, true, true, true, true, true, true, true, true, true, true, true, true, true, true, true, true, true, false, false, false, false, false, false]) (by kernel_rfl) ?_
                  exact hmeet B14 A15 c15 B17 A18 c18 B22 A23 c23 _ hS ⟨h18, h23⟩
                refine AllReadyH.cons rfl (fun K hK => ?_) ?_
                ·
                  refine step_buildKnG (by rfl) (.tmp 44) (by rfl) y (by rfl) ?_; intro B17 wx h17 hbx; replace hS := hS.trans (hbx.mono hS.size); (try replace h14 := (Recs.below h14 hbx).more hbx.size); (try replace h15 := (Recs.below h15 hbx).more hbx.size); (try replace h18 := (Recs.below h18 hbx).more hbx.size); (try replace h22 := (Recs.below h22 hbx).more hbx.size); (try replace h23 := (Recs.below h23 hbx).more hbx.size); clear hbx
                  refine hK.out _ _ ?_ (fun hHeld => ?_)
                  · (try dsimp only); first | done | (exact hS)
                  clear hK K
                  try simp only [Act.put, List.getElem_toArray, List.getElem_cons_succ, List.getElem_cons_zero, List.setIfInBounds_toArray, List.set_cons_zero, List.set_cons_succ]
                  refine wpAnyH_ready (rs := [15, 22]) (by kernel_rfl) (by simp) ?_
                  refine AllReadyH.cons rfl (fun K hK => ?_) ?_
                  ·
                    go_simp; go_at_call 16; refine (put_at ((hst.l.below hS).more hS.size) h14 (by omega) (by omega) HR1.out HM1.out).mono ?_; rintro e wx ⟨A15, c15, rfl, h15, hbx⟩; replace hS := hS.trans (hbx.mono hS.size); (try replace h14 := (Recs.below h14 hbx).more hbx.size); (try replace h17 := (Recs.below h17 hbx).more hbx.size); (try replace h18 := (Recs.below h18 hbx).more hbx.size); (try replace h22 := (Recs.below h22 hbx).more hbx.size); (try replace h23 := (Recs.below h23 hbx).more hbx.size); clear hbx; try go_wp2_with fail
                    refine hK.out _ _ ?_ (fun hHeld => ?_)
                    · (try dsimp only); first | done | (exact hS)
                    clear hK K
                    try simp only [Act.put, List.getElem_toArray, List.getElem_cons_succ, List.getElem_cons_zero, List.setIfInBounds_toArray, List.set_cons_zero, List.set_cons_succ]
                    refine wpAnyH_ready (rs := [18, 22]) (by kernel_rfl) (by simp) ?_
                    refine AllReadyH.cons rfl (fun K hK => ?_) ?_
                    ·
                      go_simp; go_at_call 16; refine (put_at h15 h17 (by omega) (by omega) HR3.out HM.out).mono ?_; rintro e wx ⟨A18, c18, rfl, h18, hbx⟩; replace hS := hS.trans (hbx.mono hS.size); (try replace h14 := (Recs.below h14 hbx).more hbx.size); (try replace h15 := (Recs.below h15 hbx).more hbx.size); (try replace h17 := (Recs.below h17 hbx).more hbx.size); (try replace h22 := (Recs.below h22 hbx).more hbx.size); (try replace h23 := (Recs.below h23 hbx).more hbx.size); clear hbx; try go_wp2_with fail
                      refine hK.out _ _ ?_ (fun hHeld => ?_)
                      · (try dsimp only); first | done | (exact hS)
                      clear hK K
                      try simp only [Act.put, List.getElem_toArray, List.getElem_cons_succ, List.getElem_cons_zero, List.setIfInBounds_toArray, List.set_cons_zero, List.set_cons_succ]
                      refine wpAnyH_ready (rs := [22]) (by kernel_rfl) (by simp) ?_
                      refine AllReadyH.cons rfl (fun K hK => ?_) AllReadyH.nil
                      refine step_buildKn2 (by rfl) (.tmp 48) (.tmp 49) (by rfl) x y (by rfl) (by rfl) ?_; intro B22 wx h22 hbx; replace hS := hS.trans (hbx.mono hS.size); (try replace h14 := (Recs.below h14 hbx).more hbx.size); (try replace h15 := (Recs.below h15 hbx).more hbx.size); (try replace h17 := (Recs.below h17 hbx).more hbx.size); (try replace h18 := (Recs.below h18 hbx).more hbx.size); (try replace h23 := (Recs.below h23 hbx).more hbx.size); clear hbx
                      refine hK.out _ _ ?_ (fun hHeld => ?_)
                      · (try dsimp only); first | done | (exact hS)
                      clear hK K
                      try simp only [Act.put, List.getElem_toArray, List.getElem_cons_succ, List.getElem_cons_zero, List.setIfInBounds_toArray, List.set_cons_zero, List.set_cons_succ]
                      refine wpAnyH_ready (rs := [23]) (by kernel_rfl) (by simp) ?_
                      refine AllReadyH.cons rfl (fun K hK => ?_) AllReadyH.nil
                      go_simp; go_at_call 16; refine (put_at ((hst.l.below hS).more hS.size) h22 (by omega) (by omega) HR.out HM.out).mono ?_; rintro e wx ⟨A23, c23, rfl, h23, hbx⟩; replace hS := hS.trans (hbx.mono hS.size); (try replace h14 := (Recs.below h14 hbx).more hbx.size); (try replace h15 := (Recs.below h15 hbx).more hbx.size); (try replace h17 := (Recs.below h17 hbx).more hbx.size); (try replace h18 := (Recs.below h18 hbx).more hbx.size); (try replace h22 := (Recs.below h22 hbx).more hbx.size); clear hbx; try go_wp2_with fail
                      refine hK.out _ _ ?_ (fun hHeld => ?_)
                      · (try dsimp only); first | done | (exact hS)
                      clear hK K
                      try simp only [Act.put, List.getElem_toArray, List.getElem_cons_succ, List.getElem_cons_zero, List.setIfInBounds_toArray, List.set_cons_zero, List.set_cons_succ]
                      refine wpAnyH_listed (listed' := #[true, true, true, true, true, true, true, true, true, true, true, true, true, true, true, true, true, true, true, true, true, true, true, true, false, false, false, false, false, false]) (by kernel_rfl) ?_
                      exact hmeet B14 A15 c15 B17 A18 c18 B22 A23 c23 _ hS ⟨h18, h23⟩
                    refine AllReadyH.cons rfl (fun K hK => ?_) AllReadyH.nil
                    refine step_buildKn2 (by rfl) (.tmp 48) (.tmp 49) (by rfl) x y (by rfl) (by rfl) ?_; intro B22 wx h22 hbx; replace hS := hS.trans (hbx.mono hS.size); (try replace h14 := (Recs.below h14 hbx).more hbx.size); (try replace h15 := (Recs.below h15 hbx).more hbx.size); (try replace h17 := (Recs.below h17 hbx).more hbx.size); (try replace h18 := (Recs.below h18 hbx).more hbx.size); (try replace h23 := (Recs.below h23 hbx).more hbx.size); clear hbx
                    refine hK.out _ _ ?_ (fun hHeld => ?_)
                    · (try dsimp only); first | done | (exact hS)
                    clear hK K
                    try simp only [Act.put, List.getElem_toArray, List.getElem_cons_succ, List.getElem_cons_zero, List.setIfInBounds_toArray, List.set_cons_zero, List.set_cons_succ]
                    refine wpAnyH_ready (rs := [18]) (by kernel_rfl) (by simp) ?_
                    refine AllReadyH.cons rfl (fun K hK => ?_) AllReadyH.nil
                    go_simp; go_at_call 16; refine (put_at h15 h17 (by omega) (by omega) HR3.out HM.out).mono ?_; rintro e wx ⟨A18, c18, rfl, h18, hbx⟩; replace hS := hS.trans (hbx.mono hS.size); (try replace h14 := (Recs.below h14 hbx).more hbx.size); (try replace h15 := (Recs.below h15 hbx).more hbx.size); (try replace h17 := (Recs.below h17 hbx).more hbx.size); (try replace h22 := (Recs.below h22 hbx).more hbx.size); (try replace h23 := (Recs.below h23 hbx).more hbx.size); clear hbx; try go_wp2_with fail
                    refine hK.out _ _ ?_ (fun hHeld => ?_)
                    · (try dsimp only); first | done | (exact hS)
                    clear hK K
                    try simp only [Act.put, List.getElem_toArray, List.getElem_cons_succ, List.getElem_cons_zero, List.setIfInBounds_toArray, List.set_cons_zero, List.set_cons_succ]
                    refine wpAnyH_ready (rs := [23]) (by kernel_rfl) (by simp) ?_
                    refine AllReadyH.cons rfl (fun K hK => ?_) AllReadyH.nil
                    go_simp; go_at_call 16; refine (put_at ((hst.l.below hS).more hS.size) h22 (by omega) (by omega) HR.out HM.out).mono ?_; rintro e wx ⟨A23, c23, rfl, h23, hbx⟩; replace hS := hS.trans (hbx.mono hS.size); (try replace h14 := (Recs.below h14 hbx).more hbx.size); (try replace h15 := (Recs.below h15 hbx).more hbx.size); (try replace h17 := (Recs.below h17 hbx).more hbx.size); (try replace h18 := (Recs.below h18 hbx).more hbx.size); (try replace h22 := (Recs.below h22 hbx).more hbx.size); clear hbx; try go_wp2_with fail
                    refine hK.out _ _ ?_ (fun hHeld => ?_)
                    · (try dsimp only); first | done | (exact hS)
                    clear hK K
                    try simp only [Act.put, List.getElem_toArray, List.getElem_cons_succ, List.getElem_cons_zero, List.setIfInBounds_toArray, List.set_cons_zero, List.set_cons_succ]
                    refine wpAnyH_listed (listed' := #[true, true, true, true, true, true, true, true, true, true, true, true, true, true, true, true, true, true, true, true, true, true, true, true, false, false, false, false, false, false]) (by kernel_rfl) ?_
                    exact hmeet B14 A15 c15 B17 A18 c18 B22 A23 c23 _ hS ⟨h18, h23⟩
                  refine AllReadyH.cons rfl (fun K hK => ?_) AllReadyH.nil
                  refine step_buildKn2 (by rfl) (.tmp 48) (.tmp 49) (by rfl) x y (by rfl) (by rfl) ?_; intro B22 wx h22 hbx; replace hS := hS.trans (hbx.mono hS.size); (try replace h14 := (Recs.below h14 hbx).more hbx.size); (try replace h15 := (Recs.below h15 hbx).more hbx.size); (try replace h17 := (Recs.below h17 hbx).more hbx.size); (try replace h18 := (Recs.below h18 hbx).more hbx.size); (try replace h23 := (Recs.below h23 hbx).more hbx.size); clear hbx
                  refine hK.out _ _ ?_ (fun hHeld => ?_)
                  · (try dsimp only); first | done | (exact hS)
                  clear hK K
                  try simp only [Act.put, List.getElem_toArray, List.getElem_cons_succ, List.getElem_cons_zero, List.setIfInBounds_toArray, List.set_cons_zero, List.set_cons_succ]
                  refine wpAnyH_ready (rs := [15]) (by kernel_rfl) (by simp) ?_
                  refine AllReadyH.cons rfl (fun K hK => ?_) AllReadyH.nil
                  go_simp; go_at_call 16; refine (put_at ((hst.l.below hS).more hS.size) h14 (by omega) (by omega) HR1.out HM1.out).mono ?_; rintro e wx ⟨A15, c15, rfl, h15, hbx⟩; replace hS := hS.trans (hbx.mono hS.size); (try replace h14 := (Recs.below h14 hbx).more hbx.size); (try replace h17 := (Recs.below h17 hbx).more hbx.size); (try replace h18 := (Recs.below h18 hbx).more hbx.size); (try replace h22 := (Recs.below h22 hbx).more hbx.size); (try replace h23 := (Recs.below h23 hbx).more hbx.size); clear hbx; try go_wp2_with fail
                  refine hK.out _ _ ?_ (fun hHeld => ?_)
                  · (try dsimp only); first | done | (exact hS)
                  clear hK K
                  try simp only [Act.put, List.getElem_toArray, List.getElem_cons_succ, List.getElem_cons_zero, List.setIfInBounds_toArray, List.set_cons_zero, List.set_cons_succ]
                  refine wpAnyH_ready (rs := [18]) (by kernel_rfl) (by simp) ?_
                  refine AllReadyH.cons rfl (fun K hK => ?_) AllReadyH.nil
                  go_simp; go_at_call 16; refine (put_at h15 h17 (by omega) (by omega) HR3.out HM.out).mono ?_; rintro e wx ⟨A18, c18, rfl, h18, hbx⟩; replace hS := hS.trans (hbx.mono hS.size); (try replace h14 := (Recs.below h14 hbx).more hbx.size); (try replace h15 := (Recs.below h15 hbx).more hbx.size); (try replace h17 := (Recs.below h17 hbx).more hbx.size); (try replace h22 := (Recs.below h22 hbx).more hbx.size); (try replace h23 := (Recs.below h23 hbx).more hbx.size); clear hbx; try go_wp2_with fail
                  refine hK.out _ _ ?_ (fun hHeld => ?_)
                  · (try dsimp only); first | done | (exact hS)
                  clear hK K
                  try simp only [Act.put, List.getElem_toArray, List.getElem_cons_succ, List.getElem_cons_zero, List.setIfInBounds_toArray, List.set_cons_zero, List.set_cons_succ]
                  refine wpAnyH_ready (rs := [23]) (by kernel_rfl) (by simp) ?_
                  refine AllReadyH.cons rfl (fun K hK => ?_) AllReadyH.nil
                  go_simp; go_at_call 16; refine (put_at ((hst.l.below hS).more hS.size) h22 (by omega) (by omega) HR.out HM.out).mono ?_; rintro e wx ⟨A23, c23, rfl, h23, hbx⟩; replace hS := hS.trans (hbx.mono hS.size); (try replace h14 := (Recs.below h14 hbx).more hbx.size); (try replace h15 := (Recs.below h15 hbx).more hbx.size); (try replace h17 := (Recs.below h17 hbx).more hbx.size); (try replace h18 := (Recs.below h18 hbx).more hbx.size); (try replace h22 := (Recs.below h22 hbx).more hbx.size); clear hbx; try go_wp2_with fail
                  refine hK.out _ _ ?_ (fun hHeld => ?_)
                  · (try dsimp only); first | done | (exact hS)
                  clear hK K
                  try simp only [Act.put, List.getElem_toArray, List.getElem_cons_succ, List.getElem_cons_zero, List.setIfInBounds_toArray, List.set_cons_zero, List.set_cons_succ]
                  refine wpAnyH_listed (listed' := #[true, true, true, true, true, true, true, true, true, true, true, true, true, true, true, true, true, true, true, true, true, true, true, true, false, false, false, false, false, false]) (by kernel_rfl) ?_
                  exact hmeet B14 A15 c15 B17 A18 c18 B22 A23 c23 _ hS ⟨h18, h23⟩
                refine AllReadyH.cons rfl (fun K hK => ?_) AllReadyH.nil
                refine step_buildKn2 (by rfl) (.tmp 48) (.tmp 49) (by rfl) x y (by rfl) (by rfl) ?_; intro B22 wx h22 hbx; replace hS := hS.trans (hbx.mono hS.size); (try replace h14 := (Recs.below h14 hbx).more hbx.size); (try replace h15 := (Recs.below h15 hbx).more hbx.size); (try replace h17 := (Recs.below h17 hbx).more hbx.size); (try replace h18 := (Recs.below h18 hbx).more hbx.size); (try replace h23 := (Recs.below h23 hbx).more hbx.size); clear hbx
                refine hK.out _ _ ?_ (fun hHeld => ?_)
                · (try dsimp only); first | done | (exact hS)
                clear hK K
                try simp only [Act.put, List.getElem_toArray, List.getElem_cons_succ, List.getElem_cons_zero, List.setIfInBounds_toArray, List.set_cons_zero, List.set_cons_succ]
                refine wpAnyH_ready (rs := [15, 17]) (by kernel_rfl) (by simp) ?_
                refine AllReadyH.cons rfl (fun K hK => ?_) ?_
                ·
                  go_simp; go_at_call 16; refine (put_at ((hst.l.below hS).more hS.size) h14 (by omega) (by omega) HR1.out HM1.out).mono ?_; rintro e wx ⟨A15, c15, rfl, h15, hbx⟩; replace hS := hS.trans (hbx.mono hS.size); (try replace h14 := (Recs.below h14 hbx).more hbx.size); (try replace h17 := (Recs.below h17 hbx).more hbx.size); (try replace h18 := (Recs.below h18 hbx).more hbx.size); (try replace h22 := (Recs.below h22 hbx).more hbx.size); (try replace h23 := (Recs.below h23 hbx).more hbx.size); clear hbx; try go_wp2_with fail
                  refine hK.out _ _ ?_ (fun hHeld => ?_)
                  · (try dsimp only); first | done | (exact hS)
                  clear hK K
                  try simp only [Act.put, List.getElem_toArray, List.getElem_cons_succ, List.getElem_cons_zero, List.setIfInBounds_toArray, List.set_cons_zero, List.set_cons_succ]
                  refine wpAnyH_ready (rs := [17]) (by kernel_rfl) (by simp) ?_
                  refine AllReadyH.cons rfl (fun K hK => ?_) AllReadyH.nil
                  refine step_buildKnG (by rfl) (.tmp 44) (by rfl) y (by rfl) ?_; intro B17 wx h17 hbx; replace hS := hS.trans (hbx.mono hS.size); (try replace h14 := (Recs.below h14 hbx).more hbx.size); (try replace h15 := (Recs.below h15 hbx).more hbx.size); (try replace h18 := (Recs.below h18 hbx).more hbx.size); (try replace h22 := (Recs.below h22 hbx).more hbx.size); (try replace h23 := (Recs.below h23 hbx).more hbx.size); clear hbx
                  refine hK.out _ _ ?_ (fun hHeld => ?_)
                  · (try dsimp only); first | done | (exact hS)
                  clear hK K
                  try simp only [Act.put, List.getElem_toArray, List.getElem_cons_succ, List.getElem_cons_zero, List.setIfInBounds_toArray, List.set_cons_zero, List.set_cons_succ]
                  refine wpAnyH_ready (rs := [18]) (by kernel_rfl) (by simp) ?_
                  refine AllReadyH.cons rfl (fun K hK => ?_) AllReadyH.nil
                  go_simp; go_at_call 16; refine (put_at h15 h17 (by omega) (by omega) HR3.out HM.out).mono ?_; rintro e wx ⟨A18, c18, rfl, h18, hbx⟩; replace hS := hS.trans (hbx.mono hS.size); (try replace h14 := (Recs.below h14 hbx).more hbx.size); (try replace h15 := (Recs.below h15 hbx).more hbx.size); (try replace h17 := (Recs.below h17 hbx).more hbx.size); (try replace h22 := (Recs.below h22 hbx).more hbx.size); (try replace h23 := (Recs.below h23 hbx).more hbx.size); clear hbx; try go_wp2_with fail
                  refine hK.out _ _ ?_ (fun hHeld => ?_)
                  · (try dsimp only); first | done | (exact hS)
                  clear hK K
                  try simp only [Act.put, List.getElem_toArray, List.getElem_cons_succ, List.getElem_cons_zero, List.setIfInBounds_toArray, List.set_cons_zero, List.set_cons_succ]
                  refine wpAnyH_ready (rs := [23]) (by kernel_rfl) (by simp) ?_
                  refine AllReadyH.cons rfl (fun K hK => ?_) AllReadyH.nil
                  go_simp; go_at_call 16; refine (put_at ((hst.l.below hS).more hS.size) h22 (by omega) (by omega) HR.out HM.out).mono ?_; rintro e wx ⟨A23, c23, rfl, h23, hbx⟩; replace hS := hS.trans (hbx.mono hS.size); (try replace h14 := (Recs.below h14 hbx).more hbx.size); (try replace h15 := (Recs.below h15 hbx).more hbx.size); (try replace h17 := (Recs.below h17 hbx).more hbx.size); (try replace h18 := (Recs.below h18 hbx).more hbx.size); (try replace h22 := (Recs.below h22 hbx).more hbx.size); clear hbx; try go_wp2_with fail
                  refine hK.out _ _ ?_ (fun hHeld => ?_)
                  · (try dsimp only); first | done | (exact hS)
                  clear hK K
                  try simp only [Act.put, List.getElem_toArray, List.getElem_cons_succ, List.getElem_cons_zero, List.setIfInBounds_toArray, List.set_cons_zero, List.set_cons_succ]
                  refine wpAnyH_listed (listed' := #[true, true, true, true, true, true, true, true, true, true, true, true, true, true, true, true, true, true, true, true, true, true, true, true, false, false, false, false, false, false]) (by kernel_rfl) ?_
                  exact hmeet B14 A15 c15 B17 A18 c18 B22 A23 c23 _ hS ⟨h18, h23⟩
                refine AllReadyH.cons rfl (fun K hK => ?_) AllReadyH.nil
                refine step_buildKnG (by rfl) (.tmp 44) (by rfl) y (by rfl) ?_; intro B17 wx h17 hbx; replace hS := hS.trans (hbx.mono hS.size); (try replace h14 := (Recs.below h14 hbx).more hbx.size); (try replace h15 := (Recs.below h15 hbx).more hbx.size); (try replace h18 := (Recs.below h18 hbx).more hbx.size); (try replace h22 := (Recs.below h22 hbx).more hbx.size); (try replace h23 := (Recs.below h23 hbx).more hbx.size); clear hbx
                refine hK.out _ _ ?_ (fun hHeld => ?_)
                · (try dsimp only); first | done | (exact hS)
                clear hK K
                try simp only [Act.put, List.getElem_toArray, List.getElem_cons_succ, List.getElem_cons_zero, List.setIfInBounds_toArray, List.set_cons_zero, List.set_cons_succ]
                refine wpAnyH_ready (rs := [15]) (by kernel_rfl) (by simp) ?_
                refine AllReadyH.cons rfl (fun K hK => ?_) AllReadyH.nil
                go_simp; go_at_call 16; refine (put_at ((hst.l.below hS).more hS.size) h14 (by omega) (by omega) HR1.out HM1.out).mono ?_; rintro e wx ⟨A15, c15, rfl, h15, hbx⟩; replace hS := hS.trans (hbx.mono hS.size); (try replace h14 := (Recs.below h14 hbx).more hbx.size); (try replace h17 := (Recs.below h17 hbx).more hbx.size); (try replace h18 := (Recs.below h18 hbx).more hbx.size); (try replace h22 := (Recs.below h22 hbx).more hbx.size); (try replace h23 := (Recs.below h23 hbx).more hbx.size); clear hbx; try go_wp2_with fail
                refine hK.out _ _ ?_ (fun hHeld => ?_)
                · (try dsimp only); first | done | (exact hS)
                clear hK K
                try simp only [Act.put, List.getElem_toArray, List.getElem_cons_succ, List.getElem_cons_zero, List.setIfInBounds_toArray, List.set_cons_zero, List.set_cons_succ]
                refine wpAnyH_ready (rs := [18]) (by kernel_rfl) (by simp) ?_
                refine AllReadyH.cons rfl (fun K hK => ?_) AllReadyH.nil
                go_simp; go_at_call 16; refine (put_at h15 h17 (by omega) (by omega) HR3.out HM.out).mono ?_; rintro e wx ⟨A18, c18, rfl, h18, hbx⟩; replace hS := hS.trans (hbx.mono hS.size); (try replace h14 := (Recs.below h14 hbx).more hbx.size); (try replace h15 := (Recs.below h15 hbx).more hbx.size); (try replace h17 := (Recs.below h17 hbx).more hbx.size); (try replace h22 := (Recs.below h22 hbx).more hbx.size); (try replace h23 := (Recs.below h23 hbx).more hbx.size); clear hbx; try go_wp2_with fail
                refine hK.out _ _ ?_ (fun hHeld => ?_)
                · (try dsimp only); first | done | (exact hS)
                clear hK K
                try simp only [Act.put, List.getElem_toArray, List.getElem_cons_succ, List.getElem_cons_zero, List.setIfInBounds_toArray, List.set_cons_zero, List.set_cons_succ]
                refine wpAnyH_ready (rs := [23]) (by kernel_rfl) (by simp) ?_
                refine AllReadyH.cons rfl (fun K hK => ?_) AllReadyH.nil
                go_simp; go_at_call 16; refine (put_at ((hst.l.below hS).more hS.size) h22 (by omega) (by omega) HR.out HM.out).mono ?_; rintro e wx ⟨A23, c23, rfl, h23, hbx⟩; replace hS := hS.trans (hbx.mono hS.size); (try replace h14 := (Recs.below h14 hbx).more hbx.size); (try replace h15 := (Recs.below h15 hbx).more hbx.size); (try replace h17 := (Recs.below h17 hbx).more hbx.size); (try replace h18 := (Recs.below h18 hbx).more hbx.size); (try replace h22 := (Recs.below h22 hbx).more hbx.size); clear hbx; try go_wp2_with fail
                refine hK.out _ _ ?_ (fun hHeld => ?_)
                · (try dsimp only); first | done | (exact hS)
                clear hK K
                try simp only [Act.put, List.getElem_toArray, List.getElem_cons_succ, List.getElem_cons_zero, List.setIfInBounds_toArray, List.set_cons_zero, List.set_cons_succ]
                refine wpAnyH_listed (listed' := #[true, true, true, true, true, true, true, true, true, true, true, true, true, true, true, true, true, true, true, true, true, true, true, true, false, false, false, false, false, false]) (by kernel_rfl) ?_
                exact hmeet B14 A15 c15 B17 A18 c18 B22 A23 c23 _ hS ⟨h18, h23⟩
              refine AllReadyH.cons rfl (fun K hK => ?_) ?_
              ·
                refine step_buildKnG (by rfl) (.tmp 44) (by rfl) y (by rfl) ?_; intro B17 wx h17 hbx; replace hS := hS.trans (hbx.mono hS.size); (try replace h14 := (Recs.below h14 hbx).more hbx.size); (try replace h15 := (Recs.below h15 hbx).more hbx.size); (try replace h18 := (Recs.below h18 hbx).more hbx.size); (try replace h22 := (Recs.below h22 hbx).more hbx.size); (try replace h23 := (Recs.below h23 hbx).more hbx.size); clear hbx
                refine hK.out _ _ ?_ (fun hHeld => ?_)
                · (try dsimp only); first | done | (exact hS)
                clear hK K
                try simp only [Act.put, List.getElem_toArray, List.getElem_cons_succ, List.getElem_cons_zero, List.setIfInBounds_toArray, List.set_cons_zero, List.set_cons_succ]
                refine wpAnyH_ready (rs := [14, 22]) (by kernel_rfl) (by simp) ?_
                refine AllReadyH.cons rfl (fun K hK => ?_) ?_
                ·
                  refine step_buildKnG (by rfl) (.tmp 41) (by rfl) x (by rfl) ?_; intro B14 wx h14 hbx; replace hS := hS.trans (hbx.mono hS.size); (try replace h15 := (Recs.below h15 hbx).more hbx.size); (try replace h17 := (Recs.below h17 hbx).more hbx.size); (try replace h18 := (Recs.below h18 hbx).more hbx.size); (try replace h22 := (Recs.below h22 hbx).more hbx.size); (try replace h23 := (Recs.below h23 hbx).more hbx.size); clear hbx
                  refine hK.out _ _ ?_ (fun hHeld => ?_)
                  · (try dsimp only); first | done | (exact hS)
                  clear hK K
                  try simp only [Act.put, List.getElem_toArray, List.getElem_cons_succ, List.getElem_cons_zero, List.setIfInBounds_toArray, List.set_cons_zero, List.set_cons_succ]
                  refine wpAnyH_ready (rs := [15, 22]) (by kernel_rfl) (by simp) ?_
                  refine AllReadyH.cons rfl (fun K hK => ?_) ?_
                  ·
                    go_simp; go_at_call 16; refine (put_at ((hst.l.below hS).more hS.size) h14 (by omega) (by omega) HR1.out HM1.out).mono ?_; rintro e wx ⟨A15, c15, rfl, h15, hbx⟩; replace hS := hS.trans (hbx.mono hS.size); (try replace h14 := (Recs.below h14 hbx).more hbx.size); (try replace h17 := (Recs.below h17 hbx).more hbx.size); (try replace h18 := (Recs.below h18 hbx).more hbx.size); (try replace h22 := (Recs.below h22 hbx).more hbx.size); (try replace h23 := (Recs.below h23 hbx).more hbx.size); clear hbx; try go_wp2_with fail
                    refine hK.out _ _ ?_ (fun hHeld => ?_)
                    · (try dsimp only); first | done | (exact hS)
                    clear hK K
                    try simp only [Act.put, List.getElem_toArray, List.getElem_cons_succ, List.getElem_cons_zero, List.setIfInBounds_toArray, List.set_cons_zero, List.set_cons_succ]
                    refine wpAnyH_ready (rs := [18, 22]) (by kernel_rfl) (by simp) ?_
                    refine AllReadyH.cons rfl (fun K hK => ?_) ?_
                    ·
                      go_simp; go_at_call 16; refine (put_at h15 h17 (by omega) (by omega) HR3.out HM.out).mono ?_; rintro e wx ⟨A18, c18, rfl, h18, hbx⟩; replace hS := hS.trans (hbx.mono hS.size); (try replace h14 := (Recs.below h14 hbx).more hbx.size); (try replace h15 := (Recs.below h15 hbx).more hbx.size); (try replace h17 := (Recs.below h17 hbx).more hbx.size); (try replace h22 := (Recs.below h22 hbx).more hbx.size); (try replace h23 := (Recs.below h23 hbx).more hbx.size); clear hbx; try go_wp2_with fail
                      refine hK.out _ _ ?_ (fun hHeld => ?_)
                      · (try dsimp only); first | done | (exact hS)
                      clear hK K
                      try simp only [Act.put, List.getElem_toArray, List.getElem_cons_succ, List.getElem_cons_zero, List.setIfInBounds_toArray, List.set_cons_zero, List.set_cons_succ]
                      refine wpAnyH_ready (rs := [22]) (by kernel_rfl) (by simp) ?_
                      refine AllReadyH.cons rfl (fun K hK => ?_) AllReadyH.nil
                      refine step_buildKn2 (by rfl) (.tmp 48) (.tmp 49) (by rfl) x y (by rfl) (by rfl) ?_; intro B22 wx h22 hbx; replace hS := hS.trans (hbx.mono hS.size); (try replace h14 := (Recs.below h14 hbx).more hbx.size); (try replace h15 := (Recs.below h15 hbx).more hbx.size); (try replace h17 := (Recs.below h17 hbx).more hbx.size); (try replace h18 := (Recs.below h18 hbx).more hbx.size); (try replace h23 := (Recs.below h23 hbx).more hbx.size); clear hbx
                      refine hK.out _ _ ?_ (fun hHeld => ?_)
                      · (try dsimp only); first | done | (exact hS)
                      clear hK K
                      try simp only [Act.put, List.getElem_toArray, List.getElem_cons_succ, List.getElem_cons_zero, List.setIfInBounds_toArray, List.set_cons_zero, List.set_cons_succ]
                      refine wpAnyH_ready (rs := [23]) (by kernel_rfl) (by simp) ?_
                      refine AllReadyH.cons rfl (fun K hK => ?_) AllReadyH.nil
                      go_simp; go_at_call 16; refine (put_at ((hst.l.below hS).more hS.size) h22 (by omega) (by omega) HR.out HM.out).mono ?_; rintro e wx ⟨A23, c23, rfl, h23, hbx⟩; replace hS := hS.trans (hbx.mono hS.size); (try replace h14 := (Recs.below h14 hbx).more hbx.size); (try replace h15 := (Recs.below h15 hbx).more hbx.size); (try replace h17 := (Recs.below h17 hbx).more hbx.size); (try replace h18 := (Recs.below h18 hbx).more hbx.size); (try replace h22 := (Recs.below h22 hbx).more hbx.size); clear hbx; try go_wp2_with fail
                      refine hK.out _ _ ?_ (fun hHeld => ?_)
                      · (try dsimp only); first | done | (exact hS)
                      clear hK K
                      try simp only [Act.put, List.getElem_toArray, List.getElem_cons_succ, List.getElem_cons_zero, List.setIfInBounds_toArray, List.set_cons_zero, List.set_cons_succ]
                      refine wpAnyH_listed (listed' := #[true, true, true, true, true, true, true, true, true, true, true, true, true, true, true, true, true, true, true, true, true, true, true, true, false, false, false, false, false, false]) (by kernel_rfl) ?_
                      exact hmeet B14 A15 c15 B17 A18 c18 B22 A23 c23 _ hS ⟨h18, h23⟩
                    refine AllReadyH.cons rfl (fun K hK => ?_) AllReadyH.nil
                    refine step_buildKn2 (by rfl) (.tmp 48) (.tmp 49) (by rfl) x y (by rfl) (by rfl) ?_; intro B22 wx h22 hbx; replace hS := hS.trans (hbx.mono hS.size); (try replace h14 := (Recs.below h14 hbx).more hbx.size); (try replace h15 := (Recs.below h15 hbx).more hbx.size); (try replace h17 := (Recs.below h17 hbx).more hbx.size); (try replace h18 := (Recs.below h18 hbx).more hbx.size); (try replace h23 := (Recs.below h23 hbx).more hbx.size); clear hbx
                    refine hK.out _ _ ?_ (fun hHeld => ?_)
                    · (try dsimp only); first | done | (exact hS)
                    clear hK K
                    try simp only [Act.put, List.getElem_toArray, List.getElem_cons_succ, List.getElem_cons_zero, List.setIfInBounds_toArray, List.set_cons_zero, List.set_cons_succ]
                    refine wpAnyH_ready (rs := [18]) (by kernel_rfl) (by simp) ?_
                    refine AllReadyH.cons rfl (fun K hK => ?_) AllReadyH.nil
                    go_simp; go_at_call 16; refine (put_at h15 h17 (by omega) (by omega) HR3.out HM.out).mono ?_; rintro e wx ⟨A18, c18, rfl, h18, hbx⟩; replace hS := hS.trans (hbx.mono hS.size); (try replace h14 := (Recs.below h14 hbx).more hbx.size); (try replace h15 := (Recs.below h15 hbx).more hbx.size); (try replace h17 := (Recs.below h17 hbx).more hbx.size); (try replace h22 := (Recs.below h22 hbx).more hbx.size); (try replace h23 := (Recs.below h23 hbx).more hbx.size); clear hbx; try go_wp2_with fail
                    refine hK.out _ _ ?_ (fun hHeld => ?_)
                    · (try dsimp only); first | done | (exact hS)
                    clear hK K
                    try simp only [Act.put, List.getElem_toArray, List.getElem_cons_succ, List.getElem_cons_zero, List.setIfInBounds_toArray, List.set_cons_zero, List.set_cons_succ]
                    refine wpAnyH_ready (rs := [23]) (by kernel_rfl) (by simp) ?_
                    refine AllReadyH.cons rfl (fun K hK => ?_) AllReadyH.nil
                    go_simp; go_at_call 16; refine (put_at ((hst.l.below hS).more hS.size) h22 (by omega) (by omega) HR.out HM.out).mono ?_; rintro e wx ⟨A23, c23, rfl, h23, hbx⟩; replace hS := hS.trans (hbx.mono hS.size); (try replace h14 := (Recs.below h14 hbx).more hbx.size); (try replace h15 := (Recs.below h15 hbx).more hbx.size); (try replace h17 := (Recs.below h17 hbx).more hbx.size); (try replace h18 := (Recs.below h18 hbx).more hbx.size); (try replace h22 := (Recs.below h22 hbx).more hbx.size); clear hbx; try go_wp2_with fail
                    refine hK.out _ _ ?_ (fun hHeld => ?_)
                    · (try dsimp only); first | done | (exact hS)
                    clear hK K
                    try simp only [Act.put, List.getElem_toArray, List.getElem_cons_succ, List.getElem_cons_zero, List.setIfInBounds_toArray, List.set_cons_zero, List.set_cons_succ]
                    refine wpAnyH_listed (listed' := #[true, true, true, true, true, true, true, true, true, true, true, true, true, true, true, true, true, true, true, true, true, true, true, true, false, false, false, false, false, false]) (by kernel_rfl) ?_
                    exact hmeet B14 A15 c15 B17 A18 c18 B22 A23 c23 _ hS ⟨h18, h23⟩
                  refine AllReadyH.cons rfl (fun K hK => ?_) AllReadyH.nil
                  refine step_buildKn2 (by rfl) (.tmp 48) (.tmp 49) (by rfl) x y (by rfl) (by rfl) ?_; intro B22 wx h22 hbx; replace hS := hS.trans (hbx.mono hS.size); (try replace h14 := (Recs.below h14 hbx).more hbx.size); (try replace h15 := (Recs.below h15 hbx).more hbx.size); (try replace h17 := (Recs.below h17 hbx).more hbx.size); (try replace h18 := (Recs.below h18 hbx).more hbx.size); (try replace h23 := (Recs.below h23 hbx).more hbx.size); clear hbx
                  refine hK.out _ _ ?_ (fun hHeld => ?_)
                  · (try dsimp only); first | done | (exact hS)
                  clear hK K
                  try simp only [Act.put, List.getElem_toArray, List.getElem_cons_succ, List.getElem_cons_zero, List.setIfInBounds_toArray, List.set_cons_zero, List.set_cons_succ]
                  refine wpAnyH_ready (rs := [15]) (by kernel_rfl) (by simp) ?_
                  refine AllReadyH.cons rfl (fun K hK => ?_) AllReadyH.nil
                  go_simp; go_at_call 16; refine (put_at ((hst.l.below hS).more hS.size) h14 (by omega) (by omega) HR1.out HM1.out).mono ?_; rintro e wx ⟨A15, c15, rfl, h15, hbx⟩; replace hS := hS.trans (hbx.mono hS.size); (try replace h14 := (Recs.below h14 hbx).more hbx.size); (try replace h17 := (Recs.below h17 hbx).more hbx.size); (try replace h18 := (Recs.below h18 hbx).more hbx.size); (try replace h22 := (Recs.below h22 hbx).more hbx.size); (try replace h23 := (Recs.below h23 hbx).more hbx.size); clear hbx; try go_wp2_with fail
                  refine hK.out _ _ ?_ (fun hHeld => ?_)
                  · (try dsimp only); first | done | (exact hS)
                  clear hK K
                  try simp only [Act.put, List.getElem_toArray, List.getElem_cons_succ, List.getElem_cons_zero, List.setIfInBounds_toArray, List.set_cons_zero, List.set_cons_succ]
                  refine wpAnyH_ready (rs := [18]) (by kernel_rfl) (by simp) ?_
                  refine AllReadyH.cons rfl (fun K hK => ?_) AllReadyH.nil
                  go_simp; go_at_call 16; refine (put_at h15 h17 (by omega) (by omega) HR3.out HM.out).mono ?_; rintro e wx ⟨A18, c18, rfl, h18, hbx⟩; replace hS := hS.trans (hbx.mono hS.size); (try replace h14 := (Recs.below h14 hbx).more hbx.size); (try replace h15 := (Recs.below h15 hbx).more hbx.size); (try replace h17 := (Recs.below h17 hbx).more hbx.size); (try replace h22 := (Recs.below h22 hbx).more hbx.size); (try replace h23 := (Recs.below h23 hbx).more hbx.size); clear hbx; try go_wp2_with fail
                  refine hK.out _ _ ?_ (fun hHeld => ?_)
                  · (try dsimp only); first | done | (exact hS)
                  clear hK K
                  try simp only [Act.put, List.getElem_toArray, List.getElem_cons_succ, List.getElem_cons_zero, List.setIfInBounds_toArray, List.set_cons_zero, List.set_cons_succ]
                  refine wpAnyH_ready (rs := [23]) (by kernel_rfl) (by simp) ?_
                  refine AllReadyH.cons rfl (fun K hK => ?_) AllReadyH.nil
                  go_simp; go_at_call 16; refine (put_at ((hst.l.below hS).more hS.size) h22 (by omega) (by omega) HR.out HM.out).mono ?_; rintro e wx ⟨A23, c23, rfl, h23, hbx⟩; replace hS := hS.trans (hbx.mono hS.size); (try replace h14 := (Recs.below h14 hbx).more hbx.size); (try replace h15 := (Recs.below h15 hbx).more hbx.size); (try replace h17 := (Recs.below h17 hbx).more hbx.size); (try replace h18 := (Recs.below h18 hbx).more hbx.size); (try replace h22 := (Recs.below h22 hbx).more hbx.size); clear hbx; try go_wp2_with fail
                  refine hK.out _ _ ?_ (fun hHeld => ?_)
                  · (try dsimp only); first | done | (exact hS)
                  clear hK K
                  try simp only [Act.put, List.getElem_toArray, List.getElem_cons_succ, List.getElem_cons_zero, List.setIfInBounds_toArray, List.set_cons_zero, List.set_cons_succ]
                  refine wpAnyH_listed (listed' := #[true, true, true, true, true, true, true, true, true, true, true, true, true, true, true, true, true, true, true, true, true, true, true, true, false, false, false, false, false, false]) (by kernel_rfl) ?_
                  exact hmeet B14 A15 c15 B17 A18 c18 B22 A23 c23 _ hS ⟨h18, h23⟩
                refine AllReadyH.cons rfl (fun K hK => ?_) AllReadyH.nil
                refine step_buildKn2 (by rfl) (.tmp 48) (.tmp 49) (by rfl) x y (by rfl) (by rfl) ?_; intro B22 wx h22 hbx; replace hS := hS.trans (hbx.mono hS.size); (try replace h14 := (Recs.below h14 hbx).more hbx.size); (try replace h15 := (Recs.below h15 hbx).more hbx.size); (try replace h17 := (Recs.below h17 hbx).more hbx.size); (try replace h18 := (Recs.below h18 hbx).more hbx.size); (try replace h23 := (Recs.below h23 hbx).more hbx.size); clear hbx
                refine hK.out _ _ ?_ (fun hHeld => ?_)
                · (try dsimp only); first | done | (exact hS)
                clear hK K
                try simp only [Act.put, List.getElem_toArray, List.getElem_cons_succ, List.getElem_cons_zero, List.setIfInBounds_toArray, List.set_cons_zero, List.set_cons_succ]
                refine wpAnyH_ready (rs := [14]) (by kernel_rfl) (by simp) ?_
                refine AllReadyH.cons rfl (fun K hK => ?_) AllReadyH.nil
                refine step_buildKnG (by rfl) (.tmp 41) (by rfl) x (by rfl) ?_; intro B14 wx h14 hbx; replace hS := hS.trans (hbx.mono hS.size); (try replace h15 := (Recs.below h15 hbx).more hbx.size); (try replace h17 := (Recs.below h17 hbx).more hbx.size); (try replace h18 := (Recs.below h18 hbx).more hbx.size); (try replace h22 := (Recs.below h22 hbx).more hbx.size); (try replace h23 := (Recs.below h23 hbx).more hbx.size); clear hbx
                refine hK.out _ _ ?_ (fun hHeld => ?_)
                · (try dsimp only); first | done | (exact hS)
                clear hK K
                try simp only [Act.put, List.getElem_toArray, List.getElem_cons_succ, List.getElem_cons_zero, List.setIfInBounds_toArray, List.set_cons_zero, List.set_cons_succ]
                refine wpAnyH_ready (rs := [15]) (by kernel_rfl) (by simp) ?_
                refine AllReadyH.cons rfl (fun K hK => ?_) AllReadyH.nil
                go_simp; go_at_call 16; refine (put_at ((hst.l.below hS).more hS.size) h14 (by omega) (by omega) HR1.out HM1.out).mono ?_; rintro e wx ⟨A15, c15, rfl, h15, hbx⟩; replace hS := hS.trans (hbx.mono hS.size); (try replace h14 := (Recs.below h14 hbx).more hbx.size); (try replace h17 := (Recs.below h17 hbx).more hbx.size); (try replace h18 := (Recs.below h18 hbx).more hbx.size); (try replace h22 := (Recs.below h22 hbx).more hbx.size); (try replace h23 := (Recs.below h23 hbx).more hbx.size); clear hbx; try go_wp2_with fail
                refine hK.out _ _ ?_ (fun hHeld => ?_)
                · (try dsimp only); first | done | (exact hS)
                clear hK K
                try simp only [Act.put, List.getElem_toArray, List.getElem_cons_succ, List.getElem_cons_zero, List.setIfInBounds_toArray, List.set_cons_zero, List.set_cons_succ]
                refine wpAnyH_ready (rs := [18]) (by kernel_rfl) (by simp) ?_
                refine AllReadyH.cons rfl (fun K hK => ?_) AllReadyH.nil
                go_simp; go_at_call 16; refine (put_at h15 h17 (by omega) (by omega) HR3.out HM.out).mono ?_; rintro e wx ⟨A18, c18, rfl, h18, hbx⟩; replace hS := hS.trans (hbx.mono hS.size); (try replace h14 := (Recs.below h14 hbx).more hbx.size); (try replace h15 := (Recs.below h15 hbx).more hbx.size); (try replace h17 := (Recs.below h17 hbx).more hbx.size); (try replace h22 := (Recs.below h22 hbx).more hbx.size); (try replace h23 := (Recs.below h23 hbx).more hbx.size); clear hbx; try go_wp2_with fail
                refine hK.out _ _ ?_ (fun hHeld => ?_)
                · (try dsimp only); first | done | (exact hS)
                clear hK K
                try simp only [Act.put, List.getElem_toArray, List.getElem_cons_succ, List.getElem_cons_zero, List.setIfInBounds_toArray, List.set_cons_zero, List.set_cons_succ]
                refine wpAnyH_ready (rs := [23]) (by kernel_rfl) (by simp) ?_
                refine AllReadyH.cons rfl (fun K hK => ?_) AllReadyH.nil
                go_simp; go_at_call 16; refine (put_at ((hst.l.below hS).more hS.size) h22 (by omega) (by omega) HR.out HM.out).mono ?_; rintro e wx ⟨A23, c23, rfl, h23, hbx⟩; replace hS := hS.trans (hbx.mono hS.size); (try replace h14 := (Recs.below h14 hbx).more hbx.size); (try replace h15 := (Recs.below h15 hbx).more hbx.size); (try replace h17 := (Recs.below h17 hbx).more hbx.size); (try replace h18 := (Recs.below h18 hbx).more hbx.size); (try replace h22 := (Recs.below h22 hbx).more hbx.size); clear hbx; try go_wp2_with fail
                refine hK.out _ _ ?_ (fun hHeld => ?_)
                · (try dsimp only); first | done | (exact hS)
                clear hK K
                try simp only [Act.put, List.getElem_toArray, List.getElem_cons_succ, List.getElem_cons_zero, List.setIfInBounds_toArray, List.set_cons_zero, List.set_cons_succ]
                refine wpAnyH_listed (listed' := #[true, true, true, true, true, true, true, true, true, true, true, true, true, true, true, true, true, true, true, true, true, true, true, true, false, false, false, false, false, false]) (by kernel_rfl) ?_
                exact hmeet B14 A15 c15 B17 A18 c18 B22 A23 c23 _ hS ⟨h18, h23⟩
              refine AllReadyH.cons rfl (fun K hK => ?_) AllReadyH.nil
              refine step_buildKn2 (by rfl) (.tmp 48) (.tmp 49) (by rfl) x y (by rfl) (by rfl) ?_; intro B22 wx h22 hbx; replace hS := hS.trans (hbx.mono hS.size); (try replace h14 := (Recs.below h14 hbx).more hbx.size); (try replace h15 := (Recs.below h15 hbx).more hbx.size); (try replace h17 := (Recs.below h17 hbx).more hbx.size); (try replace h18 := (Recs.below h18 hbx).more hbx.size); (try replace h23 := (Recs.below h23 hbx).more hbx.size); clear hbx
              refine hK.out _ _ ?_ (fun hHeld => ?_)
              · (try dsimp only); first | done | (exact hS)
              clear hK K
              try simp only [Act.put, List.getElem_toArray, List.getElem_cons_succ, List.getElem_cons_zero, List.setIfInBounds_toArray, List.set_cons_zero, List.set_cons_succ]
              refine wpAnyH_ready (rs := [14, 17]) (by kernel_rfl) (by simp) ?_
              refine AllReadyH.cons rfl (fun K hK => ?_) ?_
              ·
                refine step_buildKnG (by rfl) (.tmp 41) (by rfl) x (by rfl) ?_; intro B14 wx h14 hbx; replace hS := hS.trans (hbx.mono hS.size); (try replace h15 := (Recs.below h15 hbx).more hbx.size); (try replace h17 := (Recs.below h17 hbx).more hbx.size); (try replace h18 := (Recs.below h18 hbx).more hbx.size); (try replace h22 := (Recs.below h22 hbx).more hbx.size); (try replace h23 := (Recs.below h23 hbx).more hbx.size); clear hbx
                refine hK.out _ _ ?_ (fun hHeld => ?_)
                · (try dsimp only); first | done | (exact hS)
                clear hK K
                try simp only [Act.put, List.getElem_toArray, List.getElem_cons_succ, List.getElem_cons_zero, List.setIfInBounds_toArray, List.set_cons_zero, List.set_cons_succ]
                refine wpAnyH_ready (rs := [15, 17]) (by kernel_rfl) (by simp) ?_
                refine AllReadyH.cons rfl (fun K hK => ?_) ?_
                ·
                  go_simp; go_at_call 16; refine (put_at ((hst.l.below hS).more hS.size) h14 (by omega) (by omega) HR1.out HM1.out).mono ?_; rintro e wx ⟨A15, c15, rfl, h15, hbx⟩; replace hS := hS.trans (hbx.mono hS.size); (try replace h14 := (Recs.below h14 hbx).more hbx.size); (try replace h17 := (Recs.below h17 hbx).more hbx.size); (try replace h18 := (Recs.below h18 hbx).more hbx.size); (try replace h22 := (Recs.below h22 hbx).more hbx.size); (try replace h23 := (Recs.below h23 hbx).more hbx.size); clear hbx; try go_wp2_with fail
                  refine hK.out _ _ ?_ (fun hHeld => ?_)
                  · (try dsimp only); first | done | (exact hS)
                  clear hK K
                  try simp only [Act.put, List.getElem_toArray, List.getElem_cons_succ, List.getElem_cons_zero, List.setIfInBounds_toArray, List.set_cons_zero, List.set_cons_succ]
                  refine wpAnyH_ready (rs := [17]) (by kernel_rfl) (by simp) ?_
                  refine AllReadyH.cons rfl (fun K hK => ?_) AllReadyH.nil
                  refine step_buildKnG (by rfl) (.tmp 44) (by rfl) y (by rfl) ?_; intro B17 wx h17 hbx; replace hS := hS.trans (hbx.mono hS.size); (try replace h14 := (Recs.below h14 hbx).more hbx.size); (try replace h15 := (Recs.below h15 hbx).more hbx.size); (try replace h18 := (Recs.below h18 hbx).more hbx.size); (try replace h22 := (Recs.below h22 hbx).more hbx.size); (try replace h23 := (Recs.below h23 hbx).more hbx.size); clear hbx
                  refine hK.out _ _ ?_ (fun hHeld => ?_)
                  · (try dsimp only); first | done | (exact hS)
                  clear hK K
                  try simp only [Act.put, List.getElem_toArray, List.getElem_cons_succ, List.getElem_cons_zero, List.setIfInBounds_toArray, List.set_cons_zero, List.set_cons_succ]
                  refine wpAnyH_ready (rs := [18]) (by kernel_rfl) (by simp) ?_
                  refine AllReadyH.cons rfl (fun K hK => ?_) AllReadyH.nil
                  go_simp; go_at_call 16; refine (put_at h15 h17 (by omega) (by omega) HR3.out HM.out).mono ?_; rintro e wx ⟨A18, c18, rfl, h18, hbx⟩; replace hS := hS.trans (hbx.mono hS.size); (try replace h14 := (Recs.below h14 hbx).more hbx.size); (try replace h15 := (Recs.below h15 hbx).more hbx.size); (try replace h17 := (Recs.below h17 hbx).more hbx.size); (try replace h22 := (Recs.below h22 hbx).more hbx.size); (try replace h23 := (Recs.below h23 hbx).more hbx.size); clear hbx; try go_wp2_with fail
                  refine hK.out _ _ ?_ (fun hHeld => ?_)
                  · (try dsimp only); first | done | (exact hS)
                  clear hK K
                  try simp only [Act.put, List.getElem_toArray, List.getElem_cons_succ, List.getElem_cons_zero, List.setIfInBounds_toArray, List.set_cons_zero, List.set_cons_succ]
                  refine wpAnyH_ready (rs := [23]) (by kernel_rfl) (by simp) ?_
                  refine AllReadyH.cons rfl (fun K hK => ?_) AllReadyH.nil
                  go_simp; go_at_call 16; refine (put_at ((hst.l.below hS).more hS.size) h22 (by omega) (by omega) HR.out HM.out).mono ?_; rintro e wx ⟨A23, c23, rfl, h23, hbx⟩; replace hS := hS.trans (hbx.mono hS.size); (try replace h14 := (Recs.below h14 hbx).more hbx.size); (try replace h15 := (Recs.below h15 hbx).more hbx.size); (try replace h17 := (Recs.below h17 hbx).more hbx.size); (try replace h18 := (Recs.below h18 hbx).more hbx.size); (try replace h22 := (Recs.below h22 hbx).more hbx.size); clear hbx; try go_wp2_with fail
                  refine hK.out _ _ ?_ (fun hHeld => ?_)
                  · (try dsimp only); first | done | (exact hS)
                  clear hK K
                  try simp only [Act.put, List.getElem_toArray, List.getElem_cons_succ, List.getElem_cons_zero, List.setIfInBounds_toArray, List.set_cons_zero, List.set_cons_succ]
                  refine wpAnyH_listed (listed' := #[true, true, true, true, true, true, true, true, true, true, true, true, true, true, true, true, true, true, true, true, true, true, true, true, false, false, false, false, false, false]) (by kernel_rfl) ?_
                  exact hmeet B14 A15 c15 B17 A18 c18 B22 A23 c23 _ hS ⟨h18, h23⟩
                refine AllReadyH.cons rfl (fun K hK => ?_) AllReadyH.nil
                refine step_buildKnG (by rfl) (.tmp 44) (by rfl) y (by rfl) ?_; intro B17 wx h17 hbx; replace hS := hS.trans (hbx.mono hS.size); (try replace h14 := (Recs.below h14 hbx).more hbx.size); (try replace h15 := (Recs.below h15 hbx).more hbx.size); (try replace h18 := (Recs.below h18 hbx).more hbx.size); (try replace h22 := (Recs.below h22 hbx).more hbx.size); (try replace h23 := (Recs.below h23 hbx).more hbx.size); clear hbx
                refine hK.out _ _ ?_ (fun hHeld => ?_)
                · (try dsimp only); first | done | (exact hS)
                clear hK K
                try simp only [Act.put, List.getElem_toArray, List.getElem_cons_succ, List.getElem_cons_zero, List.setIfInBounds_toArray, List.set_cons_zero, List.set_cons_succ]
                refine wpAnyH_ready (rs := [15]) (by kernel_rfl) (by simp) ?_
                refine AllReadyH.cons rfl (fun K hK => ?_) AllReadyH.nil
                go_simp; go_at_call 16; refine (put_at ((hst.l.below hS).more hS.size) h14 (by omega) (by omega) HR1.out HM1.out).mono ?_; rintro e wx ⟨A15, c15, rfl, h15, hbx⟩; replace hS := hS.trans (hbx.mono hS.size); (try replace h14 := (Recs.below h14 hbx).more hbx.size); (try replace h17 := (Recs.below h17 hbx).more hbx.size); (try replace h18 := (Recs.below h18 hbx).more hbx.size); (try replace h22 := (Recs.below h22 hbx).more hbx.size); (try replace h23 := (Recs.below h23 hbx).more hbx.size); clear hbx; try go_wp2_with fail
                refine hK.out _ _ ?_ (fun hHeld => ?_)
                · (try dsimp only); first | done | (exact hS)
                clear hK K
                try simp only [Act.put, List.getElem_toArray, List.getElem_cons_succ, List.getElem_cons_zero, List.setIfInBounds_toArray, List.set_cons_zero, List.set_cons_succ]
                refine wpAnyH_ready (rs := [18]) (by kernel_rfl) (by simp) ?_
                refine AllReadyH.cons rfl (fun K hK => ?_) AllReadyH.nil
                go_simp; go_at_call 16; refine (put_at h15 h17 (by omega) (by omega) HR3.out HM.out).mono ?_; rintro e wx ⟨A18, c18, rfl, h18, hbx⟩; replace hS := hS.trans (hbx.mono hS.size); (try replace h14 := (Recs.below h14 hbx).more hbx.size); (try replace h15 := (Recs.below h15 hbx).more hbx.size); (try replace h17 := (Recs.below h17 hbx).more hbx.size); (try replace h22 := (Recs.below h22 hbx).more hbx.size); (try replace h23 := (Recs.below h23 hbx).more hbx.size); clear hbx; try go_wp2_with fail
                refine hK.out _ _ ?_ (fun hHeld => ?_)
                · (try dsimp only); first | done | (exact hS)
                clear hK K
                try simp only [Act.put, List.getElem_toArray, List.getElem_cons_succ, List.getElem_cons_zero, List.setIfInBounds_toArray, List.set_cons_zero, List.set_cons_succ]
                refine wpAnyH_ready (rs := [23]) (by kernel_rfl) (by simp) ?_
                refine AllReadyH.cons rfl (fun K hK => ?_) AllReadyH.nil
                go_simp; go_at_call 16; refine (put_at ((hst.l.below hS).more hS.size) h22 (by omega) (by omega) HR.out HM.out).mono ?_; rintro e wx ⟨A23, c23, rfl, h23, hbx⟩; replace hS := hS.trans (hbx.mono hS.size); (try replace h14 := (Recs.below h14 hbx).more hbx.size); (try replace h15 := (Recs.below h15 hbx).more hbx.size); (try replace h17 := (Recs.below h17 hbx).more hbx.size); (try replace h18 := (Recs.below h18 hbx).more hbx.size); (try replace h22 := (Recs.below h22 hbx).more hbx.size); clear hbx; try go_wp2_with fail
                refine hK.out _ _ ?_ (fun hHeld => ?_)
                · (try dsimp only); first | done | (exact hS)
                clear hK K
                try simp only [Act.put, List.getElem_toArray, List.getElem_cons_succ, List.getElem_cons_zero, List.setIfInBounds_toArray, List.set_cons_zero, List.set_cons_succ]
                refine wpAnyH_listed (listed' := #[true, true, true, true, true, true, true, true, true, true, true, true, true, true, true, true, true, true, true, true, true, true, true, true, false, false, false, false, false, false]) (by kernel_rfl) ?_
                exact hmeet B14 A15 c15 B17 A18 c18 B22 A23 c23 _ hS ⟨h18, h23⟩
              refine AllReadyH.cons rfl (fun K hK => ?_) AllReadyH.nil
              refine step_buildKnG (by rfl) (.tmp 44) (by rfl) y (by rfl) ?_; intro B17 wx h17 hbx; replace hS := hS.trans (hbx.mono hS.size); (try replace h14 := (Recs.below h14 hbx).more hbx.size); (try replace h15 := (Recs.below h15 hbx).more hbx.size); (try replace h18 := (Recs.below h18 hbx).more hbx.size); (try replace h22 := (Recs.below h22 hbx).more hbx.size); (try replace h23 := (Recs.below h23 hbx).more hbx.size); clear hbx
              refine hK.out _ _ ?_ (fun hHeld => ?_)
              · (try dsimp only); first | done | (exact hS)
              clear hK K
              try simp only [Act.put, List.getElem_toArray, List.getElem_cons_succ, List.getElem_cons_zero, List.setIfInBounds_toArray, List.set_cons_zero, List.set_cons_succ]
              refine wpAnyH_ready (rs := [14]) (by kernel_rfl) (by simp) ?_
              refine AllReadyH.cons rfl (fun K hK => ?_) AllReadyH.nil
              refine step_buildKnG (by rfl) (.tmp 41) (by rfl) x (by rfl) ?_; intro B14 wx h14 hbx; replace hS := hS.trans (hbx.mono hS.size); (try replace h15 := (Recs.below h15 hbx).more hbx.size); (try replace h17 := (Recs.below h17 hbx).more hbx.size); (try replace h18 := (Recs.below h18 hbx).more hbx.size); (try replace h22 := (Recs.below h22 hbx).more hbx.size); (try replace h23 := (Recs.below h23 hbx).more hbx.size); clear hbx
              refine hK.out _ _ ?_ (fun hHeld => ?_)
              · (try dsimp only); first | done | (exact hS)
              clear hK K
              try simp only [Act.put, List.getElem_toArray, List.getElem_cons_succ, List.getElem_cons_zero, List.setIfInBounds_toArray, List.set_cons_zero, List.set_cons_succ]
              refine wpAnyH_ready (rs := [15]) (by kernel_rfl) (by simp) ?_
              refine AllReadyH.cons rfl (fun K hK => ?_) AllReadyH.nil
              go_simp; go_at_call 16; refine (put_at ((hst.l.below hS).more hS.size) h14 (by omega) (by omega) HR1.out HM1.out).mono ?_; rintro e wx ⟨A15, c15, rfl, h15, hbx⟩; replace hS := hS.trans (hbx.mono hS.size); (try replace h14 := (Recs.below h14 hbx).more hbx.size); (try replace h17 := (Recs.below h17 hbx).more hbx.size); (try replace h18 := (Recs.below h18 hbx).more hbx.size); (try replace h22 := (Recs.below h22 hbx).more hbx.size); (try replace h23 := (Recs.below h23 hbx).more hbx.size); clear hbx; try go_wp2_with fail
              refine hK.out _ _ ?_ (fun hHeld => ?_)
              · (try dsimp only); first | done | (exact hS)
              clear hK K
              try simp only [Act.put, List.getElem_toArray, List.getElem_cons_succ, List.getElem_cons_zero, List.setIfInBounds_toArray, List.set_cons_zero, List.set_cons_succ]
              refine wpAnyH_ready (rs := [18]) (by kernel_rfl) (by simp) ?_
              refine AllReadyH.cons rfl (fun K hK => ?_) AllReadyH.nil
              go_simp; go_at_call 16; refine (put_at h15 h17 (by omega) (by omega) HR3.out HM.out).mono ?_; rintro e wx ⟨A18, c18, rfl, h18, hbx⟩; replace hS := hS.trans (hbx.mono hS.size); (try replace h14 := (Recs.below h14 hbx).more hbx.size); (try replace h15 := (Recs.below h15 hbx).more hbx.size); (try replace h17 := (Recs.below h17 hbx).more hbx.size); (try replace h22 := (Recs.below h22 hbx).more hbx.size); (try replace h23 := (Recs.below h23 hbx).more hbx.size); clear hbx; try go_wp2_with fail
              refine hK.out _ _ ?_ (fun hHeld => ?_)
              · (try dsimp only); first | done | (exact hS)
              clear hK K
              try simp only [Act.put, List.getElem_toArray, List.getElem_cons_succ, List.getElem_cons_zero, List.setIfInBounds_toArray, List.set_cons_zero, List.set_cons_succ]
              refine wpAnyH_ready (rs := [23]) (by kernel_rfl) (by simp) ?_
              refine AllReadyH.cons rfl (fun K hK => ?_) AllReadyH.nil
              go_simp; go_at_call 16; refine (put_at ((hst.l.below hS).more hS.size) h22 (by omega) (by omega) HR.out HM.out).mono ?_; rintro e wx ⟨A23, c23, rfl, h23, hbx⟩; replace hS := hS.trans (hbx.mono hS.size); (try replace h14 := (Recs.below h14 hbx).more hbx.size); (try replace h15 := (Recs.below h15 hbx).more hbx.size); (try replace h17 := (Recs.below h17 hbx).more hbx.size); (try replace h18 := (Recs.below h18 hbx).more hbx.size); (try replace h22 := (Recs.below h22 hbx).more hbx.size); clear hbx; try go_wp2_with fail
              refine hK.out _ _ ?_ (fun hHeld => ?_)
              · (try dsimp only); first | done | (exact hS)
              clear hK K
              try simp only [Act.put, List.getElem_toArray, List.getElem_cons_succ, List.getElem_cons_zero, List.setIfInBounds_toArray, List.set_cons_zero, List.set_cons_succ]
              refine wpAnyH_listed (listed' := #[true, true, true, true, true, true, true, true, true, true, true, true, true, true, true, true, true, true, true, true, true, true, true, true, false, false, false, false, false, false]) (by kernel_rfl) ?_
              exact hmeet B14 A15 c15 B17 A18 c18 B22 A23 c23 _ hS ⟨h18, h23⟩
            · clear hS hHeld
              intro A42 A43 c43 A45 A46 c46 A50 A51 c51 w6 hHeld ⟨h4, h9⟩
              have hS := hHeld
              refine wpAnyH_ready (rs := [24]) (by kernel_rfl) (by simp) ?_
              refine AllReadyH.cons rfl (fun K hK => ?_) AllReadyH.nil
              go_simp; go_at_call 12; refine (same_at h4 h9 (by omega)).mono ?_; rintro e wx ⟨rfl, hbx⟩; replace hS := hS.trans (hbx.mono hS.size); clear hbx; try go_wp2_with fail
              refine hK.out _ _ ?_ (fun hHeld => ?_)
              · (try dsimp only); first | done | (exact hS)
              clear hK K
              try simp only [Act.put, List.getElem_toArray, List.getElem_cons_succ, List.getElem_cons_zero, List.setIfInBounds_toArray, List.set_cons_zero, List.set_cons_succ]
              first
                | (refine wpAnyH_take (i := 25) (v := ?_) rfl (by kernel_rfl) (by kernel_rfl) (by kernel_rfl) (fun _ _ _ h => h) (Or.inl ⟨by rfl, ?_⟩) hHeld ?_; rotate_left; (intro wq hSw; (try dsimp only at hSw); go_simp; done))
                | (refine wpAnyH_take (i := 25) (v := ?_) rfl (by kernel_rfl) (by kernel_rfl) (by kernel_rfl) (fun _ _ _ h => h) (Or.inl ⟨by rfl, ?_⟩) hHeld ?_; rotate_left; (intro wq hSw; (try dsimp only at hSw); go_simp; with_reducible rfl))
                | refine wpAnyH_take (i := 25) (v := undef) rfl (by kernel_rfl) (by kernel_rfl) (by kernel_rfl) (fun _ _ _ h => h) (Or.inr ⟨by rfl, rfl⟩) hHeld ?_
              try simp only [Act.put, List.getElem_toArray, List.getElem_cons_succ, List.getElem_cons_zero, List.setIfInBounds_toArray, List.set_cons_zero, List.set_cons_succ]
              first
                | (refine wpAnyH_take (i := 26) (v := ?_) rfl (by kernel_rfl) (by kernel_rfl) (by kernel_rfl) (fun _ _ _ h => h) (Or.inl ⟨by rfl, ?_⟩) hHeld ?_; rotate_left; (intro wq hSw; (try dsimp only at hSw); go_simp; done))
                | (refine wpAnyH_take (i := 26) (v := ?_) rfl (by kernel_rfl) (by kernel_rfl) (by kernel_rfl) (fun _ _ _ h => h) (Or.inl ⟨by rfl, ?_⟩) hHeld ?_; rotate_left; (intro wq hSw; (try dsimp only at hSw); go_simp; with_reducible rfl))
                | refine wpAnyH_take (i := 26) (v := undef) rfl (by kernel_rfl) (by kernel_rfl) (by kernel_rfl) (fun _ _ _ h => h) (Or.inr ⟨by rfl, rfl⟩) hHeld ?_
              try simp only [Act.put, List.getElem_toArray, List.getElem_cons_succ, List.getElem_cons_zero, List.setIfInBounds_toArray, List.set_cons_zero, List.set_cons_succ]
              refine wpAnyH_ready (rs := [27]) (by kernel_rfl) (by simp) ?_
              refine AllReadyH.cons rfl (fun K hK => ?_) AllReadyH.nil
              go_simp; go_at_call 10; refine (wakes11_any _).mono ?_; rintro e wx ⟨rfl, hbx⟩; replace hS := hS.trans (hbx.mono hS.size); clear hbx; try go_wp2_with fail
              refine hK.out _ _ ?_ (fun hHeld => ?_)
              · (try dsimp only); first | done | (exact hS)
              clear hK K
              try simp only [Act.put, List.getElem_toArray, List.getElem_cons_succ, List.getElem_cons_zero, List.setIfInBounds_toArray, List.set_cons_zero, List.set_cons_succ]
              first
                | (refine wpAnyH_take (i := 28) (v := ?_) rfl (by kernel_rfl) (by kernel_rfl) (by kernel_rfl) (fun _ _ _ h => h) (Or.inl ⟨by rfl, ?_⟩) hHeld ?_; rotate_left; (intro wq hSw; (try dsimp only at hSw); go_simp; done))
                | (refine wpAnyH_take (i := 28) (v := ?_) rfl (by kernel_rfl) (by kernel_rfl) (by kernel_rfl) (fun _ _ _ h => h) (Or.inl ⟨by rfl, ?_⟩) hHeld ?_; rotate_left; (intro wq hSw; (try dsimp only at hSw); go_simp; with_reducible rfl))
                | refine wpAnyH_take (i := 28) (v := undef) rfl (by kernel_rfl) (by kernel_rfl) (by kernel_rfl) (fun _ _ _ h => h) (Or.inr ⟨by rfl, rfl⟩) hHeld ?_
              try simp only [Act.put, List.getElem_toArray, List.getElem_cons_succ, List.getElem_cons_zero, List.setIfInBounds_toArray, List.set_cons_zero, List.set_cons_succ]
              first
                | (refine wpAnyH_take (i := 29) (v := ?_) rfl (by kernel_rfl) (by kernel_rfl) (by kernel_rfl) (fun _ _ _ h => h) (Or.inl ⟨by rfl, ?_⟩) hHeld ?_; rotate_left; (intro wq hSw; (try dsimp only at hSw); go_simp; done))
                | (refine wpAnyH_take (i := 29) (v := ?_) rfl (by kernel_rfl) (by kernel_rfl) (by kernel_rfl) (fun _ _ _ h => h) (Or.inl ⟨by rfl, ?_⟩) hHeld ?_; rotate_left; (intro wq hSw; (try dsimp only at hSw); go_simp; with_reducible rfl))
                | refine wpAnyH_take (i := 29) (v := undef) rfl (by kernel_rfl) (by kernel_rfl) (by kernel_rfl) (fun _ _ _ h => h) (Or.inr ⟨by rfl, rfl⟩) hHeld ?_
              try simp only [Act.put, List.getElem_toArray, List.getElem_cons_succ, List.getElem_cons_zero, List.setIfInBounds_toArray, List.set_cons_zero, List.set_cons_succ]
              refine wpAnyH_done (by kernel_rfl) ?_ _
              (go_wp2_with fail; go_ret; exact ⟨rfl, hst.b.trans (hS.mono hst.b.size)⟩)
        · go_wp2_with fail
          refine (wakes11_any _).mono ?_
          rintro e w9 ⟨rfl, hb9⟩
          go_wp2_with fail
          go_ret
          exact ⟨rfl, hst.b.trans (hb9.mono hst.b.size)⟩
    · go_wp2_with fail
      refine (wakes11_any _).mono ?_
      rintro e w9 ⟨rfl, hb9⟩
      go_wp2_with fail
      go_ret
      exact ⟨rfl, hst.b.trans (hb9.mono hst.b.size)⟩
  · clear h60
    go_wp2_with fail
    refine (wakes11_any _).mono ?_
    rintro e w9 ⟨rfl, hb9⟩
    go_wp2_with fail
    go_ret
    exact ⟨rfl, hst.b.trans (hb9.mono hst.b.size)⟩
end Go.Proofs.Ytpdbibejocajhaa
