/-
  What the keeper's look computes, where a name is not known. Conditions: at most 500 names, 1000 lookups in flight, of at most 100000 races each.
-/
import Derived.Test.YtfahmfaakjnpcaaNm5
namespace Go.Proofs.Ytfahmfaakjnpcaa
set_option linter.unusedVariables false
set_option linter.unusedSimpArgs false
open Go.RowKit Go.Shelf

theorem LtAt.ne {w : World} {g base k n c : Nat} {m : Lt} {e : TypeId} {A : Option Addr} {xs : List Value} (hk : LtAt w g m) (ho : Ow w base e k A n c xs) (he : e ≠ 40) : ∀ q, rowOf A c = some q → q ≠ g := by
  rintro q hq rfl
  rcases ho.2.2.2 with h0 | ⟨g', cur, rfl, _, hh, _⟩
  · simp [rowOf, h0] at hq
  · unfold rowOf at hq
    split at hq
    · cases hq
    · simp at hq
      subst hq
      unfold LtAt at hk
      rw [hk] at hh
      injection hh with hh
      injection hh with h1 h2 h3
      exact he h2.symm
theorem grown_cell {w w' : World} {gr b : Nat} (h : w.grownBy w' (some gr)) (hb : b < w.heap.size) (hne : b ≠ gr) (o : Nat) : w'.cell? ⟨b, o, none⟩ = w.cell? ⟨b, o, none⟩ := by
  have := h.block b hb (fun e => hne (by injection e))
  simp [World.cell?, this]
theorem OwR.some_ {α : Type} {enc : α → List Value} {k : Nat} {w : World} {base n c : Nat} {e : TypeId} {A : Option Addr} {xs : List α} (h : OwR enc k w base e A n c xs) (hn : 0 < n) : ∃ g, A = some ⟨g, 0, none⟩ ∧ 0 < c := by
  rcases h.2.2.2.2 with h0 | ⟨g, _, e, _⟩
  · have := h.2.2.1; omega
  · exact ⟨g, e, by have := h.2.2.1; omega⟩
theorem OwR.free_ {α : Type} {enc : α → List Value} {k : Nat} {w : World} {base n c g : Nat} {e : TypeId} {xs : List α} (h : OwR enc k w base e (some ⟨g, 0, none⟩) n c xs) (hc : 0 < c) (o : Nat) : w.frozen? ⟨g, o, none⟩ = false := by
  rcases h.2.2.2.2 with h0 | ⟨g', cur, e, _, hh, _⟩
  · omega
  · injection e with e
    injection e with e
    subst e
    exact frozen_row hh o
theorem find_at {r : Int} (fid : FuncId) (eg : ∀ args w, (callFunc fid args).run Try.prog w = .ok (.enter fid args) w) (caps : Array Value) (p : FlH → Bool) (g B : Nat) (h : NmH) (ck nx : Int) (D : Option Addr) (dn dc : Nat) (l : List FlH) (w : World) (hk : Kp w g h ck nx D dn dc) (hl : Fls w B h.fA h.fn l) (hB : B ≤ w.heap.size) (hn : h.fn ≤ 100000)
    (hf : ∀ (x : FlH) (wx : World), x ∈ l → Below w.heap.size w wx → Calls Try.prog fid (#[valFl x] ++ caps) wx fun e w' => e = .returned (.bool (p x)) ∧ Below wx.heap.size wx w') (hr : idxL l p = r) :
    Calls Try.prog 29 #[.pointer (some ⟨g, 0, none⟩), .func (.func fid) #[] caps] w fun e w' => e = .returned (.int .i64 r) ∧ Below w.heap.size w w' := by
  subst hr
  exact find_any fid eg caps p g B h ck nx D dn dc l w hk hl hB hn hf
set_option maxRecDepth 100000 in
set_option maxHeartbeats 8000000 in
theorem look_flies (B0 g : Nat) (h : NmH) (ck nx : Int) (m : Lt) (l : List Kn) (fs : List Fx) (i : Nat) (w : World) (hk : Kp w g h ck nx none 0 0) (hN : NmIs w B0 h l fs) (F : Nat → Prop) (hF : Stb F w (fun w'' => NmIs w'' w''.heap.size h l fs)) (hFB : ∀ b, F b → b < B0) (hB : B0 ≤ g) (hn : h.kn ≤ 500) (hfn : h.fn ≤ 1000) (hG : getK l m.t ck = none) (hP : placeF (absF fs) m.t = some i) (hpn : ∀ p ∈ fs, p.1.n ≤ 90000) :
    Calls Try.prog 27 #[.pointer (some ⟨g, 0, none⟩), .agg #[.int .i8 m.k, .int .i64 m.f, .int .i64 m.n, .int .i64 m.s, .string m.t, .int .i64 m.e]] w fun e w' => StepK F g ck nx (lookN (absN h l fs) m.f m.t ck nx) w e w' := by
  have HR := Lib.hid (lookN_flies (n := absN h l fs) (fr := m.f) (nx := nx) hG hP)
  have hP2 := hP
  rw [absF_find] at hP2
  obtain ⟨hi1, hi2⟩ := idx_some hP2
  rw [hN.f.1.1] at hi2
  have HI := Lib.hid hi1
  clear hP hP2 hi1
  have lg := hk.lt
  have hg1 : gotK (getK l m.t ck) = zeroKn := by rw [hG]; rfl
  have hg2 : (getK l m.t ck).isSome = false := by rw [hG]; rfl
  have hb0 := Below.new_ w (.cells #[.int .i8 m.k, .int .i64 m.f, .int .i64 m.n, .int .i64 m.s, .string m.t, .int .i64 m.e] 40)
  have hk0 := hk.next hb0
  have hm0 := LtAt.new w m
  have hl0 := (hN.k.below' hb0 (by omega)).more (B' := (w.alloc (.cells #[.int .i8 m.k, .int .i64 m.f, .int .i64 m.n, .int .i64 m.s, .string m.t, .int .i64 m.e] 40)).heap.size) (by simp; omega)
  have HG1 := Lib.hid hg1
  have HG2 := Lib.hid hg2
  clear hg1 hg2 hG
  go_enter Try.func27, Try.ntmps27
  go_upto_region 1 with fail
  generalize (w.alloc (.cells #[.int .i8 m.k, .int .i64 m.f, .int .i64 m.n, .int .i64 m.s, .string m.t, .int .i64 m.e] 40)) = W at hb0 hk0 hm0 hl0 ⊢
  have lgW := hk0.lt
  have lmW := hm0.lt
  go_cut [4, 5] (fun s4 s5 wx => LookPre W zeroKn false s4 s5 wx)
  case first =>
    obtain ⟨z0, z10, z11, z12, z13, z14, z15⟩ := hk0.cells
    obtain ⟨m0, m1, m2, m3, m4, m5⟩ := hm0.cells
    have hS : Below W.heap.size W W.drew := (Below.refl _ _).drew
    clear z0 z11 z12 z14 z15 m0 m1 m2 m3 m5
    refine wp_region_held_drew (S := (fun wx => Below W.heap.size W wx)) (by kernel_rfl) ?_ (fun hHeld => ?_)
    · (try dsimp only); first | done | ((first | exact hS | exact putKn_below zeroKn hS (Nat.le_refl _) | exact hS0.alloc hS0.size _))
    first
      | (refine wpAnyH_take (i := 0) (v := ?_) rfl (by kernel_rfl) (by kernel_rfl) (by kernel_rfl) (fun _ _ _ h => h) (Or.inl ⟨by rfl, ?_⟩) hHeld ?_; rotate_left; (intro wq hSw; (try dsimp only at hSw); go_simp; done))
      | (refine wpAnyH_take (i := 0) (v := ?_) rfl (by kernel_rfl) (by kernel_rfl) (by kernel_rfl) (fun _ _ _ h => h) (Or.inl ⟨by rfl, ?_⟩) hHeld ?_; rotate_left; (intro wq hSw; (try dsimp only at hSw); go_simp; with_reducible rfl))
      | refine wpAnyH_take (i := 0) (v := undef) rfl (by kernel_rfl) (by kernel_rfl) (by kernel_rfl) (fun _ _ _ h => h) (Or.inr ⟨by rfl, rfl⟩) hHeld ?_
    try simp only [Act.put, List.getElem_toArray, List.getElem_cons_succ, List.getElem_cons_zero, List.setIfInBounds_toArray, List.set_cons_zero, List.set_cons_succ]
    first
      | (refine wpAnyH_take (i := 5) (v := ?_) rfl (by kernel_rfl) (by kernel_rfl) (by kernel_rfl) (fun _ _ _ h => h) (Or.inl ⟨by rfl, ?_⟩) hHeld ?_; rotate_left; (intro wq hSw; (try dsimp only at hSw); go_simp; done))
      | (refine wpAnyH_take (i := 5) (v := ?_) rfl (by kernel_rfl) (by kernel_rfl) (by kernel_rfl) (fun _ _ _ h => h) (Or.inl ⟨by rfl, ?_⟩) hHeld ?_; rotate_left; (intro wq hSw; (try dsimp only at hSw); go_simp; with_reducible rfl))
      | refine wpAnyH_take (i := 5) (v := undef) rfl (by kernel_rfl) (by kernel_rfl) (by kernel_rfl) (fun _ _ _ h => h) (Or.inr ⟨by rfl, rfl⟩) hHeld ?_
    try simp only [Act.put, List.getElem_toArray, List.getElem_cons_succ, List.getElem_cons_zero, List.setIfInBounds_toArray, List.set_cons_zero, List.set_cons_succ]
    first
      | (refine wpAnyH_take (i := 7) (v := ?_) rfl (by kernel_rfl) (by kernel_rfl) (by kernel_rfl) (fun _ _ _ h => h) (Or.inl ⟨by rfl, ?_⟩) hHeld ?_; rotate_left; (intro wq hSw; (try dsimp only at hSw); go_simp; done))
      | (refine wpAnyH_take (i := 7) (v := ?_) rfl (by kernel_rfl) (by kernel_rfl) (by kernel_rfl) (fun _ _ _ h => h) (Or.inl ⟨by rfl, ?_⟩) hHeld ?_; rotate_left; (intro wq hSw; (try dsimp only at hSw); go_simp; with_reducible rfl))
      | refine wpAnyH_take (i := 7) (v := undef) rfl (by kernel_rfl) (by kernel_rfl) (by kernel_rfl) (fun _ _ _ h => h) (Or.inr ⟨by rfl, rfl⟩) hHeld ?_
    try simp only [Act.put, List.getElem_toArray, List.getElem_cons_succ, List.getElem_cons_zero, List.setIfInBounds_toArray, List.set_cons_zero, List.set_cons_succ]
    first
      | (refine wpAnyH_take (i := 1) (v := ?_) rfl (by kernel_rfl) (by kernel_rfl) (by kernel_rfl) (fun _ _ _ h => h) (Or.inl ⟨by rfl, ?_⟩) hHeld ?_; rotate_left; (intro wq hSw; (try dsimp only at hSw); go_simp; done))
      | (refine wpAnyH_take (i := 1) (v := ?_) rfl (by kernel_rfl) (by kernel_rfl) (by kernel_rfl) (fun _ _ _ h => h) (Or.inl ⟨by rfl, ?_⟩) hHeld ?_; rotate_left; (intro wq hSw; (try dsimp only at hSw); go_simp; with_reducible rfl))
      | refine wpAnyH_take (i := 1) (v := undef) rfl (by kernel_rfl) (by kernel_rfl) (by kernel_rfl) (fun _ _ _ h => h) (Or.inr ⟨by rfl, rfl⟩) hHeld ?_
    try simp only [Act.put, List.getElem_toArray, List.getElem_cons_succ, List.getElem_cons_zero, List.setIfInBounds_toArray, List.set_cons_zero, List.set_cons_succ]
    first
      | (refine wpAnyH_take (i := 6) (v := ?_) rfl (by kernel_rfl) (by kernel_rfl) (by kernel_rfl) (fun _ _ _ h => h) (Or.inl ⟨by rfl, ?_⟩) hHeld ?_; rotate_left; (intro wq hSw; (try dsimp only at hSw); have v4 := (hSw.cell (p := ⟨w.heap.size, 4, none⟩) lmW).trans m4; go_simp; done))
      | (refine wpAnyH_take (i := 6) (v := ?_) rfl (by kernel_rfl) (by kernel_rfl) (by kernel_rfl) (fun _ _ _ h => h) (Or.inl ⟨by rfl, ?_⟩) hHeld ?_; rotate_left; (intro wq hSw; (try dsimp only at hSw); have v4 := (hSw.cell (p := ⟨w.heap.size, 4, none⟩) lmW).trans m4; go_simp; with_reducible rfl))
      | refine wpAnyH_take (i := 6) (v := undef) rfl (by kernel_rfl) (by kernel_rfl) (by kernel_rfl) (fun _ _ _ h => h) (Or.inr ⟨by rfl, rfl⟩) hHeld ?_
    try simp only [Act.put, List.getElem_toArray, List.getElem_cons_succ, List.getElem_cons_zero, List.setIfInBounds_toArray, List.set_cons_zero, List.set_cons_succ]
    first
      | (refine wpAnyH_take (i := 8) (v := ?_) rfl (by kernel_rfl) (by kernel_rfl) (by kernel_rfl) (fun _ _ _ h => h) (Or.inl ⟨by rfl, ?_⟩) hHeld ?_; rotate_left; (intro wq hSw; (try dsimp only at hSw); go_simp; done))
      | (refine wpAnyH_take (i := 8) (v := ?_) rfl (by kernel_rfl) (by kernel_rfl) (by kernel_rfl) (fun _ _ _ h => h) (Or.inl ⟨by rfl, ?_⟩) hHeld ?_; rotate_left; (intro wq hSw; (try dsimp only at hSw); go_simp; with_reducible rfl))
      | refine wpAnyH_take (i := 8) (v := undef) rfl (by kernel_rfl) (by kernel_rfl) (by kernel_rfl) (fun _ _ _ h => h) (Or.inr ⟨by rfl, rfl⟩) hHeld ?_
    try simp only [Act.put, List.getElem_toArray, List.getElem_cons_succ, List.getElem_cons_zero, List.setIfInBounds_toArray, List.set_cons_zero, List.set_cons_succ]
    first
      | (refine wpAnyH_take (i := 2) (v := ?_) rfl (by kernel_rfl) (by kernel_rfl) (by kernel_rfl) (fun _ _ _ h => h) (Or.inl ⟨by rfl, ?_⟩) hHeld ?_; rotate_left; (intro wq hSw; (try dsimp only at hSw); go_simp; done))
      | (refine wpAnyH_take (i := 2) (v := ?_) rfl (by kernel_rfl) (by kernel_rfl) (by kernel_rfl) (fun _ _ _ h => h) (Or.inl ⟨by rfl, ?_⟩) hHeld ?_; rotate_left; (intro wq hSw; (try dsimp only at hSw); go_simp; with_reducible rfl))
      | refine wpAnyH_take (i := 2) (v := undef) rfl (by kernel_rfl) (by kernel_rfl) (by kernel_rfl) (fun _ _ _ h => h) (Or.inr ⟨by rfl, rfl⟩) hHeld ?_
    try simp only [Act.put, List.getElem_toArray, List.getElem_cons_succ, List.getElem_cons_zero, List.setIfInBounds_toArray, List.set_cons_zero, List.set_cons_succ]
    first
      | (refine wpAnyH_take (i := 9) (v := ?_) rfl (by kernel_rfl) (by kernel_rfl) (by kernel_rfl) (fun _ _ _ h => h) (Or.inl ⟨by rfl, ?_⟩) hHeld ?_; rotate_left; (intro wq hSw; (try dsimp only at hSw); go_simp; done))
      | (refine wpAnyH_take (i := 9) (v := ?_) rfl (by kernel_rfl) (by kernel_rfl) (by kernel_rfl) (fun _ _ _ h => h) (Or.inl ⟨by rfl, ?_⟩) hHeld ?_; rotate_left; (intro wq hSw; (try dsimp only at hSw); go_simp; with_reducible rfl))
      | refine wpAnyH_take (i := 9) (v := undef) rfl (by kernel_rfl) (by kernel_rfl) (by kernel_rfl) (fun _ _ _ h => h) (Or.inr ⟨by rfl, rfl⟩) hHeld ?_
    try simp only [Act.put, List.getElem_toArray, List.getElem_cons_succ, List.getElem_cons_zero, List.setIfInBounds_toArray, List.set_cons_zero, List.set_cons_succ]
    first
      | (refine wpAnyH_take (i := 3) (v := ?_) rfl (by kernel_rfl) (by kernel_rfl) (by kernel_rfl) (fun _ _ _ h => h) (Or.inl ⟨by rfl, ?_⟩) hHeld ?_; rotate_left; (intro wq hSw; (try dsimp only at hSw); skip; go_simp; done))
      | (refine wpAnyH_take (i := 3) (v := ?_) rfl (by kernel_rfl) (by kernel_rfl) (by kernel_rfl) (fun _ _ _ h => h) (Or.inl ⟨by rfl, ?_⟩) hHeld ?_; rotate_left; (intro wq hSw; (try dsimp only at hSw); skip; go_simp; with_reducible rfl))
      | refine wpAnyH_take (i := 3) (v := undef) rfl (by kernel_rfl) (by kernel_rfl) (by kernel_rfl) (fun _ _ _ h => h) (Or.inr ⟨by rfl, rfl⟩) hHeld ?_
    try simp only [Act.put, List.getElem_toArray, List.getElem_cons_succ, List.getElem_cons_zero, List.setIfInBounds_toArray, List.set_cons_zero, List.set_cons_succ]
    first
      | (refine wpAnyH_take (i := 10) (v := ?_) rfl (by kernel_rfl) (by kernel_rfl) (by kernel_rfl) (fun _ _ _ h => h) (Or.inl ⟨by rfl, ?_⟩) hHeld ?_; rotate_left; (intro wq hSw; (try dsimp only at hSw); have v13 := (hSw.cell (p := ⟨g, 13, none⟩) lgW).trans z13; go_simp; done))
      | (refine wpAnyH_take (i := 10) (v := ?_) rfl (by kernel_rfl) (by kernel_rfl) (by kernel_rfl) (fun _ _ _ h => h) (Or.inl ⟨by rfl, ?_⟩) hHeld ?_; rotate_left; (intro wq hSw; (try dsimp only at hSw); have v13 := (hSw.cell (p := ⟨g, 13, none⟩) lgW).trans z13; go_simp; with_reducible rfl))
      | refine wpAnyH_take (i := 10) (v := undef) rfl (by kernel_rfl) (by kernel_rfl) (by kernel_rfl) (fun _ _ _ h => h) (Or.inr ⟨by rfl, rfl⟩) hHeld ?_
    try simp only [Act.put, List.getElem_toArray, List.getElem_cons_succ, List.getElem_cons_zero, List.setIfInBounds_toArray, List.set_cons_zero, List.set_cons_succ]
    first
      | (refine wpAnyH_take (i := 4) (v := ?_) rfl (by kernel_rfl) (by kernel_rfl) (by kernel_rfl) (fun _ _ _ h => h) (Or.inl ⟨by rfl, ?_⟩) hHeld ?_; rotate_left; (intro wq hSw; (try dsimp only at hSw); have v10 := (hSw.cell (p := ⟨g, 10, none⟩) lgW).trans z10; go_simp; done))
      | (refine wpAnyH_take (i := 4) (v := ?_) rfl (by kernel_rfl) (by kernel_rfl) (by kernel_rfl) (fun _ _ _ h => h) (Or.inl ⟨by rfl, ?_⟩) hHeld ?_; rotate_left; (intro wq hSw; (try dsimp only at hSw); have v10 := (hSw.cell (p := ⟨g, 10, none⟩) lgW).trans z10; go_simp; with_reducible rfl))
      | refine wpAnyH_take (i := 4) (v := undef) rfl (by kernel_rfl) (by kernel_rfl) (by kernel_rfl) (fun _ _ _ h => h) (Or.inr ⟨by rfl, rfl⟩) hHeld ?_
    try simp only [Act.put, List.getElem_toArray, List.getElem_cons_succ, List.getElem_cons_zero, List.setIfInBounds_toArray, List.set_cons_zero, List.set_cons_succ]
    refine wpAnyH_ready (rs := [11, 15]) (by kernel_rfl) (by simp) ?_
    refine AllReadyH.cons rfl (fun K hK => ?_) ?_
    ·
      go_simp; go_at_call 43; refine (get_at ((hl0.below hS).more hS.size) (by omega) HG1.out HG2.out).mono ?_; rintro e w2 ⟨rfl, hb2⟩; (try (have hz2 : w2.heap[W.heap.size]? = _ := (hb2.block W.heap.size (by simp)).trans (heap_alloc_new W (.cells #[.string zeroKn.1, .string zeroKn.2.1, .int .i64 zeroKn.2.2.1, .int .i64 zeroKn.2.2.2] 110)); obtain ⟨q0, q1, q2, q3⟩ := kn_cells hz2; obtain ⟨p0, p1, p2, p3⟩ := kn_free hz2)); replace hS := hS.trans (hb2.mono hS.size); clear hb2; try go_wp2_with fail
      refine hK.out _ _ ?_ (fun hHeld => ?_)
      · (try dsimp only); first | done | ((first | exact hS | exact putKn_below zeroKn hS (Nat.le_refl _) | exact hS0.alloc hS0.size _))
      clear hK K
      try simp only [Act.put, List.getElem_toArray, List.getElem_cons_succ, List.getElem_cons_zero, List.setIfInBounds_toArray, List.set_cons_zero, List.set_cons_succ]
      first
        | (refine wpAnyH_take (i := 12) (v := ?_) rfl (by kernel_rfl) (by kernel_rfl) (by kernel_rfl) (fun _ _ _ h => h) (Or.inl ⟨by rfl, ?_⟩) hHeld ?_; rotate_left; (intro wq hSw; (try dsimp only at hSw); go_simp; done))
        | (refine wpAnyH_take (i := 12) (v := ?_) rfl (by kernel_rfl) (by kernel_rfl) (by kernel_rfl) (fun _ _ _ h => h) (Or.inl ⟨by rfl, ?_⟩) hHeld ?_; rotate_left; (intro wq hSw; (try dsimp only at hSw); go_simp; with_reducible rfl))
        | refine wpAnyH_take (i := 12) (v := undef) rfl (by kernel_rfl) (by kernel_rfl) (by kernel_rfl) (fun _ _ _ h => h) (Or.inr ⟨by rfl, rfl⟩) hHeld ?_
      try simp only [Act.put, List.getElem_toArray, List.getElem_cons_succ, List.getElem_cons_zero, List.setIfInBounds_toArray, List.set_cons_zero, List.set_cons_succ]
      first
        | (refine wpAnyH_take (i := 13) (v := ?_) rfl (by kernel_rfl) (by kernel_rfl) (by kernel_rfl) (fun _ _ _ h => h) (Or.inl ⟨by rfl, ?_⟩) hHeld ?_; rotate_left; (intro wq hSw; (try dsimp only at hSw); go_simp; done))
        | (refine wpAnyH_take (i := 13) (v := ?_) rfl (by kernel_rfl) (by kernel_rfl) (by kernel_rfl) (fun _ _ _ h => h) (Or.inl ⟨by rfl, ?_⟩) hHeld ?_; rotate_left; (intro wq hSw; (try dsimp only at hSw); go_simp; with_reducible rfl))
        | refine wpAnyH_take (i := 13) (v := undef) rfl (by kernel_rfl) (by kernel_rfl) (by kernel_rfl) (fun _ _ _ h => h) (Or.inr ⟨by rfl, rfl⟩) hHeld ?_
      try simp only [Act.put, List.getElem_toArray, List.getElem_cons_succ, List.getElem_cons_zero, List.setIfInBounds_toArray, List.set_cons_zero, List.set_cons_succ]
      first
        | (refine wpAnyH_take (i := 14) (v := ?_) rfl (by kernel_rfl) (by kernel_rfl) (by kernel_rfl) (fun _ _ _ h => h) (Or.inl ⟨by rfl, ?_⟩) hHeld ?_; rotate_left; (intro wq hSw; (try dsimp only at hSw); go_simp; done))
        | (refine wpAnyH_take (i := 14) (v := ?_) rfl (by kernel_rfl) (by kernel_rfl) (by kernel_rfl) (fun _ _ _ h => h) (Or.inl ⟨by rfl, ?_⟩) hHeld ?_; rotate_left; (intro wq hSw; (try dsimp only at hSw); go_simp; with_reducible rfl))
        | refine wpAnyH_take (i := 14) (v := undef) rfl (by kernel_rfl) (by kernel_rfl) (by kernel_rfl) (fun _ _ _ h => h) (Or.inr ⟨by rfl, rfl⟩) hHeld ?_
      try simp only [Act.put, List.getElem_toArray, List.getElem_cons_succ, List.getElem_cons_zero, List.setIfInBounds_toArray, List.set_cons_zero, List.set_cons_succ]
      refine wpAnyH_ready (rs := [15]) (by kernel_rfl) (by simp) ?_
      refine AllReadyH.cons rfl (fun K hK => ?_) AllReadyH.nil
      go_simp; have hS0 := hS; replace hS := hS.alloc hS.size (.cells #[.string zeroKn.1, .string zeroKn.2.1, .int .i64 zeroKn.2.2.1, .int .i64 zeroKn.2.2.2] 110)
      refine hK.out _ _ ?_ (fun hHeld => ?_)
      · (try dsimp only); first | done | ((first | exact hS | exact putKn_below zeroKn hS (Nat.le_refl _) | exact hS0.alloc hS0.size _))
      clear hK K
      try simp only [Act.put, List.getElem_toArray, List.getElem_cons_succ, List.getElem_cons_zero, List.setIfInBounds_toArray, List.set_cons_zero, List.set_cons_succ]
      refine wpAnyH_ready (rs := [16]) (by kernel_rfl) (by simp) ?_
      refine AllReadyH.cons rfl (fun K hK => ?_) AllReadyH.nil
      go_simp
      refine hK.out _ _ ?_ (fun hHeld => ?_)
      · (try dsimp only); first | done | ((first | exact hS | exact putKn_below zeroKn hS (Nat.le_refl _) | exact hS0.alloc hS0.size _))
      clear hK K
      try simp only [Act.put, List.getElem_toArray, List.getElem_cons_succ, List.getElem_cons_zero, List.setIfInBounds_toArray, List.set_cons_zero, List.set_cons_succ]
      first
        | (refine wpAnyH_take (i := 17) (v := ?_) rfl (by kernel_rfl) (by kernel_rfl) (by kernel_rfl) (fun _ _ _ h => h) (Or.inl ⟨by rfl, ?_⟩) hHeld ?_; rotate_left; (intro wq hSw; (try dsimp only at hSw); go_simp; done))
        | (refine wpAnyH_take (i := 17) (v := ?_) rfl (by kernel_rfl) (by kernel_rfl) (by kernel_rfl) (fun _ _ _ h => h) (Or.inl ⟨by rfl, ?_⟩) hHeld ?_; rotate_left; (intro wq hSw; (try dsimp only at hSw); go_simp; with_reducible rfl))
        | refine wpAnyH_take (i := 17) (v := undef) rfl (by kernel_rfl) (by kernel_rfl) (by kernel_rfl) (fun _ _ _ h => h) (Or.inr ⟨by rfl, rfl⟩) hHeld ?_
      try simp only [Act.put, List.getElem_toArray, List.getElem_cons_succ, List.getElem_cons_zero, List.setIfInBounds_toArray, List.set_cons_zero, List.set_cons_succ]
      refine wpAnyH_done (by kernel_rfl) ?_ _
      go_wp2_with fail; go_meet; (first | (exact LookPre.one hz2 hHeld) | (exact LookPre.two hS0))
    refine AllReadyH.cons rfl (fun K hK => ?_) AllReadyH.nil
    go_simp; have hS0 := hS; replace hS := hS.alloc hS.size (.cells #[.string zeroKn.1, .string zeroKn.2.1, .int .i64 zeroKn.2.2.1, .int .i64 zeroKn.2.2.2] 110)
    refine hK.out _ _ ?_ (fun hHeld => ?_)
    · (try dsimp only); first | done | ((first | exact hS | exact putKn_below zeroKn hS (Nat.le_refl _) | exact hS0.alloc hS0.size _))
    clear hK K
    try simp only [Act.put, List.getElem_toArray, List.getElem_cons_succ, List.getElem_cons_zero, List.setIfInBounds_toArray, List.set_cons_zero, List.set_cons_succ]
    refine wpAnyH_ready (rs := [11]) (by kernel_rfl) (by simp) ?_
    refine AllReadyH.cons rfl (fun K hK => ?_) AllReadyH.nil
    go_simp; go_at_call 43; refine (get_at ((hl0.below hS).more hS.size) (by omega) HG1.out HG2.out).mono ?_; rintro e w2 ⟨rfl, hb2⟩; (try (have hz2 : w2.heap[W.heap.size]? = _ := (hb2.block W.heap.size (by simp)).trans (heap_alloc_new W (.cells #[.string zeroKn.1, .string zeroKn.2.1, .int .i64 zeroKn.2.2.1, .int .i64 zeroKn.2.2.2] 110)); obtain ⟨q0, q1, q2, q3⟩ := kn_cells hz2; obtain ⟨p0, p1, p2, p3⟩ := kn_free hz2)); replace hS := hS.trans (hb2.mono hS.size); clear hb2; try go_wp2_with fail
    refine hK.out _ _ ?_ (fun hHeld => ?_)
    · (try dsimp only); first | done | ((first | exact hS | exact putKn_below zeroKn hS (Nat.le_refl _) | exact hS0.alloc hS0.size _))
    clear hK K
    try simp only [Act.put, List.getElem_toArray, List.getElem_cons_succ, List.getElem_cons_zero, List.setIfInBounds_toArray, List.set_cons_zero, List.set_cons_succ]
    first
      | (refine wpAnyH_take (i := 12) (v := ?_) rfl (by kernel_rfl) (by kernel_rfl) (by kernel_rfl) (fun _ _ _ h => h) (Or.inl ⟨by rfl, ?_⟩) hHeld ?_; rotate_left; (intro wq hSw; (try dsimp only at hSw); go_simp; done))
      | (refine wpAnyH_take (i := 12) (v := ?_) rfl (by kernel_rfl) (by kernel_rfl) (by kernel_rfl) (fun _ _ _ h => h) (Or.inl ⟨by rfl, ?_⟩) hHeld ?_; rotate_left; (intro wq hSw; (try dsimp only at hSw); go_simp; with_reducible rfl))
      | refine wpAnyH_take (i := 12) (v := undef) rfl (by kernel_rfl) (by kernel_rfl) (by kernel_rfl) (fun _ _ _ h => h) (Or.inr ⟨by rfl, rfl⟩) hHeld ?_
    try simp only [Act.put, List.getElem_toArray, List.getElem_cons_succ, List.getElem_cons_zero, List.setIfInBounds_toArray, List.set_cons_zero, List.set_cons_succ]
    first
      | (refine wpAnyH_take (i := 13) (v := ?_) rfl (by kernel_rfl) (by kernel_rfl) (by kernel_rfl) (fun _ _ _ h => h) (Or.inl ⟨by rfl, ?_⟩) hHeld ?_; rotate_left; (intro wq hSw; (try dsimp only at hSw); go_simp; done))
      | (refine wpAnyH_take (i := 13) (v := ?_) rfl (by kernel_rfl) (by kernel_rfl) (by kernel_rfl) (fun _ _ _ h => h) (Or.inl ⟨by rfl, ?_⟩) hHeld ?_; rotate_left; (intro wq hSw; (try dsimp only at hSw); go_simp; with_reducible rfl))
      | refine wpAnyH_take (i := 13) (v := undef) rfl (by kernel_rfl) (by kernel_rfl) (by kernel_rfl) (fun _ _ _ h => h) (Or.inr ⟨by rfl, rfl⟩) hHeld ?_
    try simp only [Act.put, List.getElem_toArray, List.getElem_cons_succ, List.getElem_cons_zero, List.setIfInBounds_toArray, List.set_cons_zero, List.set_cons_succ]
    first
      | (refine wpAnyH_take (i := 14) (v := ?_) rfl (by kernel_rfl) (by kernel_rfl) (by kernel_rfl) (fun _ _ _ h => h) (Or.inl ⟨by rfl, ?_⟩) hHeld ?_; rotate_left; (intro wq hSw; (try dsimp only at hSw); go_simp; done))
      | (refine wpAnyH_take (i := 14) (v := ?_) rfl (by kernel_rfl) (by kernel_rfl) (by kernel_rfl) (fun _ _ _ h => h) (Or.inl ⟨by rfl, ?_⟩) hHeld ?_; rotate_left; (intro wq hSw; (try dsimp only at hSw); go_simp; with_reducible rfl))
      | refine wpAnyH_take (i := 14) (v := undef) rfl (by kernel_rfl) (by kernel_rfl) (by kernel_rfl) (fun _ _ _ h => h) (Or.inr ⟨by rfl, rfl⟩) hHeld ?_
    try simp only [Act.put, List.getElem_toArray, List.getElem_cons_succ, List.getElem_cons_zero, List.setIfInBounds_toArray, List.set_cons_zero, List.set_cons_succ]
    refine wpAnyH_ready (rs := [16]) (by kernel_rfl) (by simp) ?_
    refine AllReadyH.cons rfl (fun K hK => ?_) AllReadyH.nil
    go_simp
    refine hK.out _ _ ?_ (fun hHeld => ?_)
    · (try dsimp only); first | done | ((first | exact hS | exact putKn_below zeroKn hS (Nat.le_refl _) | exact hS0.alloc hS0.size _))
    clear hK K
    try simp only [Act.put, List.getElem_toArray, List.getElem_cons_succ, List.getElem_cons_zero, List.setIfInBounds_toArray, List.set_cons_zero, List.set_cons_succ]
    first
      | (refine wpAnyH_take (i := 17) (v := ?_) rfl (by kernel_rfl) (by kernel_rfl) (by kernel_rfl) (fun _ _ _ h => h) (Or.inl ⟨by rfl, ?_⟩) hHeld ?_; rotate_left; (intro wq hSw; (try dsimp only at hSw); go_simp; done))
      | (refine wpAnyH_take (i := 17) (v := ?_) rfl (by kernel_rfl) (by kernel_rfl) (by kernel_rfl) (fun _ _ _ h => h) (Or.inl ⟨by rfl, ?_⟩) hHeld ?_; rotate_left; (intro wq hSw; (try dsimp only at hSw); go_simp; with_reducible rfl))
      | refine wpAnyH_take (i := 17) (v := undef) rfl (by kernel_rfl) (by kernel_rfl) (by kernel_rfl) (fun _ _ _ h => h) (Or.inr ⟨by rfl, rfl⟩) hHeld ?_
    try simp only [Act.put, List.getElem_toArray, List.getElem_cons_succ, List.getElem_cons_zero, List.setIfInBounds_toArray, List.set_cons_zero, List.set_cons_succ]
    refine wpAnyH_done (by kernel_rfl) ?_ _
    go_wp2_with fail; go_meet; (first | (exact LookPre.one hz2 hHeld) | (exact LookPre.two hS0))
  case rest =>
    obtain ⟨gx, rfl, rfl, hx, hS3⟩ := hcut
    have hk3 := hk0.block (hS3.block g lgW)
    have hm3 := hm0.block (hS3.block _ lmW)
    have hWA := hb0.trans (hS3.mono hb0.size)
    clear hk0 hm0 hl0 hb0 hS3 lgW lmW
    have hF3 := hN.f.1.below (hWA.mono (by omega))
    go_wp2_with fail
    refine (find_at 45 eg_lookC #[.pointer (some ⟨w.heap.size, 0, none⟩)] (fun x => sEq x.name m.t) g B0 h ck nx none 0 0 (fs.map (·.1)) _ hk3 hF3 (by have := hWA.size; omega) (by omega) (fun x wx _ hbx => lookC_any x _ m wx (hm3.below hbx hm3.lt)) HI.out).mono ?_
    rintro e w4 ⟨rfl, hb4⟩
    replace hF3 := hF3.below' hb4 (by have := hWA.size; omega)
    replace hk3 := hk3.next hb4
    replace hm3 := hm3.below hb4 hm3.lt
    replace hWA := hWA.trans (hb4.mono hWA.size)
    clear hb4 hx
    obtain ⟨z0, z10, z11, z12, z13, z14, z15⟩ := hk3.cells
    clear z0 z10 z12 z13 z14 z15
    go_wp2_with fail
    refine (CloneFl_any _ _ _ B0 _ _ hF3 (by omega)).mono ?_
    rintro e w5 ⟨A5, c5, rfl, ho5, hb5⟩
    have hbase5 : w.heap.size ≤ w4.heap.size := hWA.size
    replace hk3 := hk3.next hb5
    replace hm3 := hm3.below hb5 hm3.lt
    replace hWA := hWA.trans (hb5.mono hWA.size)
    clear hb5 hF3 z11
    replace ho5 : OwFl w5 w.heap.size A5 h.fn c5 (fs.map (·.1)) := ⟨ho5.1, ho5.2.rebase hbase5⟩
    clear hbase5
    obtain ⟨z0, z10, z11, z12, z13, z14, z15⟩ := hk3.cells
    obtain ⟨f10, f11, f12, f15⟩ := hk3.free
    clear z0 z10 z12 z13 z14 z15 f10 f12 f15
    have hk6 := hk3.setF (A' := A5) (n' := h.fn) (c' := c5)
    have ho6 : OwFl (w5.setCell ⟨g, 11, none⟩ (.slice A5 h.fn c5)) w.heap.size A5 h.fn c5 (fs.map (·.1)) := ⟨ho5.1, ho5.2.set (p := ⟨g, 11, none⟩) (hk3.ne ho5.2 (by decide)) _⟩
    have hm6 : LtAt (w5.setCell ⟨g, 11, none⟩ (.slice A5 h.fn c5)) w.heap.size m := hm3.block (Below.heap_setCell _ _ _ _ (show w.heap.size ≠ g by omega))
    have hG6 : w.grownBy (w5.setCell ⟨g, 11, none⟩ (.slice A5 h.fn c5)) (some g) := grown_set (grown_below (g := g) hWA) _ rfl rfl _
    go_upto_region 7 with fail
    clear hk3 hm3 ho5 hWA z11 f11
    generalize (w5.setCell ⟨g, 11, none⟩ (.slice A5 h.fn c5)) = W6 at hk6 ho6 hm6 hG6 ⊢
    obtain ⟨gr, rfl, hcp⟩ := ho6.some_ (by omega)
    obtain ⟨p, hp⟩ : ∃ p, fs[i]? = some p := ⟨_, List.getElem?_eq_getElem (by rw [hN.f.len]; exact hi2)⟩
    have hpx : (fs.map (·.1))[i]? = some p.1 := by rw [List.getElem?_map, hp]; rfl
    obtain ⟨lgr, y0, y1, y2⟩ := Fls.cells_at ho6.recs hi2 hpx
    simp only [Nat.zero_add] at y0 y1 y2
    have hfz := ho6.free_ hcp (i * 3 + 2)
    have hpm := hN.f.2 p (List.mem_of_getElem? hp)
    have hI6 := hpm.1.below (below_grown hG6 hB lg)
    have hpn2 := hpn p (List.mem_of_getElem? hp)
    have HP := Lib.hid hp
    have HPX := Lib.hid hpx
    obtain ⟨z0, z10, z11, z12, z13, z14, z15⟩ := hk6.cells
    obtain ⟨m0, m1, m2, m3, m4, m5⟩ := hm6.cells
    have lg6 := hk6.lt
    have lm6 := hm6.lt
    have i0 : (0 : Int) ≤ (i : Int) := by omega
    have i1 : (i : Int) < (h.fn : Int) := by omega
    have hne : g ≠ gr := fun e => hk6.ne ho6.2 (by decide) gr (by simp [rowOf]; omega) e.symm
    have hnm : w.heap.size ≠ gr := fun e => hm6.ne ho6.2 (by decide) gr (by simp [rowOf]; omega) e.symm
    clear hp hpx z0 z10 z12 z13 z14 z15 m0 m2 m3 m4 m5 y0 y1
    obtain ⟨i0', hi0, hz0, hz1, hz2⟩ := info_parts infoI
    have lB6 : B0 ≤ W6.heap.size := by omega
    have lw6 : w.heap.size ≤ (W6.alloc (.cells #[.int .i64 m.f] 3)).drew.heap.size := (by first | omega | (simp; done) | (simp; omega))
    obtain ⟨A7, c7, w7, hrun, ho7, hg7, hr7⟩ := run_append_full (P := Try.prog) (W6.alloc (.cells #[.int .i64 m.f] 3)).drew w.heap.size 34 34 3 i0' (.int .i64 0) 1 8 Try.underlying34 hi0 hz0 hz1 hz2 rfl (by omega) p.1.A p.1.n B0 _ (Sl.alloc hI6 lB6 _) (W6.heap.size + 1) (some ⟨W6.heap.size, 0, none⟩) 1 1 _ (Ints.at1_ W6 _ m.f _ rfl) (int_oneCell _) (by omega) (by unfold maxLen; omega) (by omega) lw6
    have hbX : Below W6.heap.size W6 w7 := ((Below.new_ W6 _).drew).grown hg7 (by simp) (by simp)
    have ho7f := OwR.below ho6 hbX
    have y2' := (hbX.cell (p := ⟨gr, i * 3 + 2, none⟩) lgr).trans y2
    have f2' := ho7f.free_ hcp (i * 3 + 2)
    have hK7 := hk6.next hbX
    have HRUN := Lib.hid hrun
    have HO7 := Lib.hid ho7
    have HR7 := Lib.hid hr7
    have HO7F := Lib.hid ho7f
    clear hrun ho7 hr7 hg7 ho7f hi0 hz0 hz1 hz2
    have hS : W6.grownBy W6.drew (some gr) := ⟨rfl, rfl, rfl, Nat.le_refl _, fun _ _ _ => rfl⟩
    refine wp_region_held_drew (S := (fun wx => W6.grownBy wx (some gr))) (by kernel_rfl) ?_ (fun hHeld => ?_)
    · (try dsimp only); first | done | ((first | exact hS | exact grown_below hbX | exact grown_trans (grown_below hbX) (grown_setCell w7 ⟨gr, i * 3 + 2, none⟩ _)))
    first
      | (refine wpAnyH_take (i := 0) (v := ?_) rfl (by kernel_rfl) (by kernel_rfl) (by kernel_rfl) (fun _ _ _ h => h) (Or.inl ⟨by rfl, ?_⟩) hHeld ?_; rotate_left; (intro wq hSw; (try dsimp only at hSw); go_simp; done))
      | (refine wpAnyH_take (i := 0) (v := ?_) rfl (by kernel_rfl) (by kernel_rfl) (by kernel_rfl) (fun _ _ _ h => h) (Or.inl ⟨by rfl, ?_⟩) hHeld ?_; rotate_left; (intro wq hSw; (try dsimp only at hSw); go_simp; with_reducible rfl))
      | refine wpAnyH_take (i := 0) (v := undef) rfl (by kernel_rfl) (by kernel_rfl) (by kernel_rfl) (fun _ _ _ h => h) (Or.inr ⟨by rfl, rfl⟩) hHeld ?_
    try simp only [Act.put, List.getElem_toArray, List.getElem_cons_succ, List.getElem_cons_zero, List.setIfInBounds_toArray, List.set_cons_zero, List.set_cons_succ]
    first
      | (refine wpAnyH_take (i := 5) (v := ?_) rfl (by kernel_rfl) (by kernel_rfl) (by kernel_rfl) (fun _ _ _ h => h) (Or.inl ⟨by rfl, ?_⟩) hHeld ?_; rotate_left; (intro wq hSw; (try dsimp only at hSw); go_simp; done))
      | (refine wpAnyH_take (i := 5) (v := ?_) rfl (by kernel_rfl) (by kernel_rfl) (by kernel_rfl) (fun _ _ _ h => h) (Or.inl ⟨by rfl, ?_⟩) hHeld ?_; rotate_left; (intro wq hSw; (try dsimp only at hSw); go_simp; with_reducible rfl))
      | refine wpAnyH_take (i := 5) (v := undef) rfl (by kernel_rfl) (by kernel_rfl) (by kernel_rfl) (fun _ _ _ h => h) (Or.inr ⟨by rfl, rfl⟩) hHeld ?_
    try simp only [Act.put, List.getElem_toArray, List.getElem_cons_succ, List.getElem_cons_zero, List.setIfInBounds_toArray, List.set_cons_zero, List.set_cons_succ]
    first
      | (refine wpAnyH_take (i := 6) (v := ?_) rfl (by kernel_rfl) (by kernel_rfl) (by kernel_rfl) (fun _ _ _ h => h) (Or.inl ⟨by rfl, ?_⟩) hHeld ?_; rotate_left; (intro wq hSw; (try dsimp only at hSw); go_simp; done))
      | (refine wpAnyH_take (i := 6) (v := ?_) rfl (by kernel_rfl) (by kernel_rfl) (by kernel_rfl) (fun _ _ _ h => h) (Or.inl ⟨by rfl, ?_⟩) hHeld ?_; rotate_left; (intro wq hSw; (try dsimp only at hSw); go_simp; with_reducible rfl))
      | refine wpAnyH_take (i := 6) (v := undef) rfl (by kernel_rfl) (by kernel_rfl) (by kernel_rfl) (fun _ _ _ h => h) (Or.inr ⟨by rfl, rfl⟩) hHeld ?_
    try simp only [Act.put, List.getElem_toArray, List.getElem_cons_succ, List.getElem_cons_zero, List.setIfInBounds_toArray, List.set_cons_zero, List.set_cons_succ]
    first
      | (refine wpAnyH_take (i := 11) (v := ?_) rfl (by kernel_rfl) (by kernel_rfl) (by kernel_rfl) (fun _ _ _ h => h) (Or.inl ⟨by rfl, ?_⟩) hHeld ?_; rotate_left; (intro wq hSw; (try dsimp only at hSw); go_simp; done))
      | (refine wpAnyH_take (i := 11) (v := ?_) rfl (by kernel_rfl) (by kernel_rfl) (by kernel_rfl) (fun _ _ _ h => h) (Or.inl ⟨by rfl, ?_⟩) hHeld ?_; rotate_left; (intro wq hSw; (try dsimp only at hSw); go_simp; with_reducible rfl))
      | refine wpAnyH_take (i := 11) (v := undef) rfl (by kernel_rfl) (by kernel_rfl) (by kernel_rfl) (fun _ _ _ h => h) (Or.inr ⟨by rfl, rfl⟩) hHeld ?_
    try simp only [Act.put, List.getElem_toArray, List.getElem_cons_succ, List.getElem_cons_zero, List.setIfInBounds_toArray, List.set_cons_zero, List.set_cons_succ]
    first
      | (refine wpAnyH_take (i := 16) (v := ?_) rfl (by kernel_rfl) (by kernel_rfl) (by kernel_rfl) (fun _ _ _ h => h) (Or.inl ⟨by rfl, ?_⟩) hHeld ?_; rotate_left; (intro wq hSw; (try dsimp only at hSw); go_simp; done))
      | (refine wpAnyH_take (i := 16) (v := ?_) rfl (by kernel_rfl) (by kernel_rfl) (by kernel_rfl) (fun _ _ _ h => h) (Or.inl ⟨by rfl, ?_⟩) hHeld ?_; rotate_left; (intro wq hSw; (try dsimp only at hSw); go_simp; with_reducible rfl))
      | refine wpAnyH_take (i := 16) (v := undef) rfl (by kernel_rfl) (by kernel_rfl) (by kernel_rfl) (fun _ _ _ h => h) (Or.inr ⟨by rfl, rfl⟩) hHeld ?_
    try simp only [Act.put, List.getElem_toArray, List.getElem_cons_succ, List.getElem_cons_zero, List.setIfInBounds_toArray, List.set_cons_zero, List.set_cons_succ]
    first
      | (refine wpAnyH_take (i := 1) (v := ?_) rfl (by kernel_rfl) (by kernel_rfl) (by kernel_rfl) (fun _ _ _ h => h) (Or.inl ⟨by rfl, ?_⟩) hHeld ?_; rotate_left; (intro wq hSw; (try dsimp only at hSw); go_simp; done))
      | (refine wpAnyH_take (i := 1) (v := ?_) rfl (by kernel_rfl) (by kernel_rfl) (by kernel_rfl) (fun _ _ _ h => h) (Or.inl ⟨by rfl, ?_⟩) hHeld ?_; rotate_left; (intro wq hSw; (try dsimp only at hSw); go_simp; with_reducible rfl))
      | refine wpAnyH_take (i := 1) (v := undef) rfl (by kernel_rfl) (by kernel_rfl) (by kernel_rfl) (fun _ _ _ h => h) (Or.inr ⟨by rfl, rfl⟩) hHeld ?_
    try simp only [Act.put, List.getElem_toArray, List.getElem_cons_succ, List.getElem_cons_zero, List.setIfInBounds_toArray, List.set_cons_zero, List.set_cons_succ]
    first
      | (refine wpAnyH_take (i := 7) (v := ?_) rfl (by kernel_rfl) (by kernel_rfl) (by kernel_rfl) (fun _ _ _ h => h) (Or.inl ⟨by rfl, ?_⟩) hHeld ?_; rotate_left; (intro wq hSw; (try dsimp only at hSw); go_simp; done))
      | (refine wpAnyH_take (i := 7) (v := ?_) rfl (by kernel_rfl) (by kernel_rfl) (by kernel_rfl) (fun _ _ _ h => h) (Or.inl ⟨by rfl, ?_⟩) hHeld ?_; rotate_left; (intro wq hSw; (try dsimp only at hSw); go_simp; with_reducible rfl))
      | refine wpAnyH_take (i := 7) (v := undef) rfl (by kernel_rfl) (by kernel_rfl) (by kernel_rfl) (fun _ _ _ h => h) (Or.inr ⟨by rfl, rfl⟩) hHeld ?_
    try simp only [Act.put, List.getElem_toArray, List.getElem_cons_succ, List.getElem_cons_zero, List.setIfInBounds_toArray, List.set_cons_zero, List.set_cons_succ]
    first
      | (refine wpAnyH_take (i := 17) (v := ?_) rfl (by kernel_rfl) (by kernel_rfl) (by kernel_rfl) (fun _ _ _ h => h) (Or.inl ⟨by rfl, ?_⟩) hHeld ?_; rotate_left; (intro wq hSw; (try dsimp only at hSw); have v1 := (grown_cell hSw lm6 hnm 1).trans m1; go_simp; done))
      | (refine wpAnyH_take (i := 17) (v := ?_) rfl (by kernel_rfl) (by kernel_rfl) (by kernel_rfl) (fun _ _ _ h => h) (Or.inl ⟨by rfl, ?_⟩) hHeld ?_; rotate_left; (intro wq hSw; (try dsimp only at hSw); have v1 := (grown_cell hSw lm6 hnm 1).trans m1; go_simp; with_reducible rfl))
      | refine wpAnyH_take (i := 17) (v := undef) rfl (by kernel_rfl) (by kernel_rfl) (by kernel_rfl) (fun _ _ _ h => h) (Or.inr ⟨by rfl, rfl⟩) hHeld ?_
    try simp only [Act.put, List.getElem_toArray, List.getElem_cons_succ, List.getElem_cons_zero, List.setIfInBounds_toArray, List.set_cons_zero, List.set_cons_succ]
    first
      | (refine wpAnyH_take (i := 2) (v := ?_) rfl (by kernel_rfl) (by kernel_rfl) (by kernel_rfl) (fun _ _ _ h => h) (Or.inl ⟨by rfl, ?_⟩) hHeld ?_; rotate_left; (intro wq hSw; (try dsimp only at hSw); go_simp; done))
      | (refine wpAnyH_take (i := 2) (v := ?_) rfl (by kernel_rfl) (by kernel_rfl) (by kernel_rfl) (fun _ _ _ h => h) (Or.inl ⟨by rfl, ?_⟩) hHeld ?_; rotate_left; (intro wq hSw; (try dsimp only at hSw); go_simp; with_reducible rfl))
      | refine wpAnyH_take (i := 2) (v := undef) rfl (by kernel_rfl) (by kernel_rfl) (by kernel_rfl) (fun _ _ _ h => h) (Or.inr ⟨by rfl, rfl⟩) hHeld ?_
    try simp only [Act.put, List.getElem_toArray, List.getElem_cons_succ, List.getElem_cons_zero, List.setIfInBounds_toArray, List.set_cons_zero, List.set_cons_succ]
    first
      | (refine wpAnyH_take (i := 8) (v := ?_) rfl (by kernel_rfl) (by kernel_rfl) (by kernel_rfl) (fun _ _ _ h => h) (Or.inl ⟨by rfl, ?_⟩) hHeld ?_; rotate_left; (intro wq hSw; (try dsimp only at hSw); go_simp; done))
      | (refine wpAnyH_take (i := 8) (v := ?_) rfl (by kernel_rfl) (by kernel_rfl) (by kernel_rfl) (fun _ _ _ h => h) (Or.inl ⟨by rfl, ?_⟩) hHeld ?_; rotate_left; (intro wq hSw; (try dsimp only at hSw); go_simp; with_reducible rfl))
      | refine wpAnyH_take (i := 8) (v := undef) rfl (by kernel_rfl) (by kernel_rfl) (by kernel_rfl) (fun _ _ _ h => h) (Or.inr ⟨by rfl, rfl⟩) hHeld ?_
    try simp only [Act.put, List.getElem_toArray, List.getElem_cons_succ, List.getElem_cons_zero, List.setIfInBounds_toArray, List.set_cons_zero, List.set_cons_succ]
    first
      | (refine wpAnyH_take (i := 3) (v := ?_) rfl (by kernel_rfl) (by kernel_rfl) (by kernel_rfl) (fun _ _ _ h => h) (Or.inl ⟨by rfl, ?_⟩) hHeld ?_; rotate_left; (intro wq hSw; (try dsimp only at hSw); go_simp; done))
      | (refine wpAnyH_take (i := 3) (v := ?_) rfl (by kernel_rfl) (by kernel_rfl) (by kernel_rfl) (fun _ _ _ h => h) (Or.inl ⟨by rfl, ?_⟩) hHeld ?_; rotate_left; (intro wq hSw; (try dsimp only at hSw); go_simp; with_reducible rfl))
      | refine wpAnyH_take (i := 3) (v := undef) rfl (by kernel_rfl) (by kernel_rfl) (by kernel_rfl) (fun _ _ _ h => h) (Or.inr ⟨by rfl, rfl⟩) hHeld ?_
    try simp only [Act.put, List.getElem_toArray, List.getElem_cons_succ, List.getElem_cons_zero, List.setIfInBounds_toArray, List.set_cons_zero, List.set_cons_succ]
    first
      | (refine wpAnyH_take (i := 9) (v := ?_) rfl (by kernel_rfl) (by kernel_rfl) (by kernel_rfl) (fun _ _ _ h => h) (Or.inl ⟨by rfl, ?_⟩) hHeld ?_; rotate_left; (intro wq hSw; (try dsimp only at hSw); go_simp; done))
      | (refine wpAnyH_take (i := 9) (v := ?_) rfl (by kernel_rfl) (by kernel_rfl) (by kernel_rfl) (fun _ _ _ h => h) (Or.inl ⟨by rfl, ?_⟩) hHeld ?_; rotate_left; (intro wq hSw; (try dsimp only at hSw); go_simp; with_reducible rfl))
      | refine wpAnyH_take (i := 9) (v := undef) rfl (by kernel_rfl) (by kernel_rfl) (by kernel_rfl) (fun _ _ _ h => h) (Or.inr ⟨by rfl, rfl⟩) hHeld ?_
    try simp only [Act.put, List.getElem_toArray, List.getElem_cons_succ, List.getElem_cons_zero, List.setIfInBounds_toArray, List.set_cons_zero, List.set_cons_succ]
    first
      | (refine wpAnyH_take (i := 4) (v := ?_) rfl (by kernel_rfl) (by kernel_rfl) (by kernel_rfl) (fun _ _ _ h => h) (Or.inl ⟨by rfl, ?_⟩) hHeld ?_; rotate_left; (intro wq hSw; (try dsimp only at hSw); have v11 := (grown_cell hSw lg6 hne 11).trans z11; go_simp; done))
      | (refine wpAnyH_take (i := 4) (v := ?_) rfl (by kernel_rfl) (by kernel_rfl) (by kernel_rfl) (fun _ _ _ h => h) (Or.inl ⟨by rfl, ?_⟩) hHeld ?_; rotate_left; (intro wq hSw; (try dsimp only at hSw); have v11 := (grown_cell hSw lg6 hne 11).trans z11; go_simp; with_reducible rfl))
      | refine wpAnyH_take (i := 4) (v := undef) rfl (by kernel_rfl) (by kernel_rfl) (by kernel_rfl) (fun _ _ _ h => h) (Or.inr ⟨by rfl, rfl⟩) hHeld ?_
    try simp only [Act.put, List.getElem_toArray, List.getElem_cons_succ, List.getElem_cons_zero, List.setIfInBounds_toArray, List.set_cons_zero, List.set_cons_succ]
    first
      | (refine wpAnyH_take (i := 10) (v := ?_) rfl (by kernel_rfl) (by kernel_rfl) (by kernel_rfl) (fun _ _ _ h => h) (Or.inl ⟨by rfl, ?_⟩) hHeld ?_; rotate_left; (intro wq hSw; (try dsimp only at hSw); have v11 := (grown_cell hSw lg6 hne 11).trans z11; go_simp; done))
      | (refine wpAnyH_take (i := 10) (v := ?_) rfl (by kernel_rfl) (by kernel_rfl) (by kernel_rfl) (fun _ _ _ h => h) (Or.inl ⟨by rfl, ?_⟩) hHeld ?_; rotate_left; (intro wq hSw; (try dsimp only at hSw); have v11 := (grown_cell hSw lg6 hne 11).trans z11; go_simp; with_reducible rfl))
      | refine wpAnyH_take (i := 10) (v := undef) rfl (by kernel_rfl) (by kernel_rfl) (by kernel_rfl) (fun _ _ _ h => h) (Or.inr ⟨by rfl, rfl⟩) hHeld ?_
    try simp only [Act.put, List.getElem_toArray, List.getElem_cons_succ, List.getElem_cons_zero, List.setIfInBounds_toArray, List.set_cons_zero, List.set_cons_succ]
    first
      | (refine wpAnyH_take (i := 12) (v := ?_) rfl (by kernel_rfl) (by kernel_rfl) (by kernel_rfl) (fun _ _ _ h => h) (Or.inl ⟨by rfl, ?_⟩) hHeld ?_; rotate_left; (intro wq hSw; (try dsimp only at hSw); go_simp; done))
      | (refine wpAnyH_take (i := 12) (v := ?_) rfl (by kernel_rfl) (by kernel_rfl) (by kernel_rfl) (fun _ _ _ h => h) (Or.inl ⟨by rfl, ?_⟩) hHeld ?_; rotate_left; (intro wq hSw; (try dsimp only at hSw); go_simp; with_reducible rfl))
      | refine wpAnyH_take (i := 12) (v := undef) rfl (by kernel_rfl) (by kernel_rfl) (by kernel_rfl) (fun _ _ _ h => h) (Or.inr ⟨by rfl, rfl⟩) hHeld ?_
    try simp only [Act.put, List.getElem_toArray, List.getElem_cons_succ, List.getElem_cons_zero, List.setIfInBounds_toArray, List.set_cons_zero, List.set_cons_succ]
    first
      | (refine wpAnyH_take (i := 13) (v := ?_) rfl (by kernel_rfl) (by kernel_rfl) (by kernel_rfl) (fun _ _ _ h => h) (Or.inl ⟨by rfl, ?_⟩) hHeld ?_; rotate_left; (intro wq hSw; (try dsimp only at hSw); go_simp; done))
      | (refine wpAnyH_take (i := 13) (v := ?_) rfl (by kernel_rfl) (by kernel_rfl) (by kernel_rfl) (fun _ _ _ h => h) (Or.inl ⟨by rfl, ?_⟩) hHeld ?_; rotate_left; (intro wq hSw; (try dsimp only at hSw); go_simp; with_reducible rfl))
      | refine wpAnyH_take (i := 13) (v := undef) rfl (by kernel_rfl) (by kernel_rfl) (by kernel_rfl) (fun _ _ _ h => h) (Or.inr ⟨by rfl, rfl⟩) hHeld ?_
    try simp only [Act.put, List.getElem_toArray, List.getElem_cons_succ, List.getElem_cons_zero, List.setIfInBounds_toArray, List.set_cons_zero, List.set_cons_succ]
    refine wpAnyH_ready (rs := [14, 18]) (by kernel_rfl) (by simp) ?_
    refine AllReadyH.cons rfl (fun K hK => ?_) ?_
    ·
      go_simp
      refine hK.out _ _ ?_ (fun hHeld => ?_)
      · (try dsimp only); first | done | ((first | exact hS | exact grown_below hbX | exact grown_trans (grown_below hbX) (grown_setCell w7 ⟨gr, i * 3 + 2, none⟩ _)))
      clear hK K
      try simp only [Act.put, List.getElem_toArray, List.getElem_cons_succ, List.getElem_cons_zero, List.setIfInBounds_toArray, List.set_cons_zero, List.set_cons_succ]
      refine wpAnyH_ready (rs := [15, 18]) (by kernel_rfl) (by simp) ?_
      refine AllReadyH.cons rfl (fun K hK => ?_) ?_
      ·
        go_simp; go_at_call 47; refine (ClipI_any _ _ _ _ hpm.2.1 hpm.2.2 (by omega)).mono ?_; rintro e w9 ⟨rfl, rfl⟩; try go_wp2_with fail
        refine hK.out _ _ ?_ (fun hHeld => ?_)
        · (try dsimp only); first | done | ((first | exact hS | exact grown_below hbX | exact grown_trans (grown_below hbX) (grown_setCell w7 ⟨gr, i * 3 + 2, none⟩ _)))
        clear hK K
        try simp only [Act.put, List.getElem_toArray, List.getElem_cons_succ, List.getElem_cons_zero, List.setIfInBounds_toArray, List.set_cons_zero, List.set_cons_succ]
        refine wpAnyH_ready (rs := [18]) (by kernel_rfl) (by simp) ?_
        refine AllReadyH.cons rfl (fun K hK => ?_) AllReadyH.nil
        go_simp; have hS' := hS; replace hS := grown_trans hS (grown_below (Below.new_ _ (.cells #[.int .i64 m.f] 3)))
        refine hK.out _ _ ?_ (fun hHeld => ?_)
        · (try dsimp only); first | done | ((first | exact hS | exact grown_below hbX | exact grown_trans (grown_below hbX) (grown_setCell w7 ⟨gr, i * 3 + 2, none⟩ _)))
        clear hK K
        try simp only [Act.put, List.getElem_toArray, List.getElem_cons_succ, List.getElem_cons_zero, List.setIfInBounds_toArray, List.set_cons_zero, List.set_cons_succ]
        refine wpAnyH_ready (rs := [19]) (by kernel_rfl) (by simp) ?_
        refine AllReadyH.cons rfl (fun K hK => ?_) AllReadyH.nil
        refine step_append_run (by rfl) (.tmp 64) (.tmp 67) 34 (by rfl) (.slice p.1.A p.1.n p.1.n) (.slice (some ⟨W6.heap.size, 0, none⟩) 1 1) (.slice A7 (p.1.n + 1) c7) (by first | (go_simp; done) | rfl) (by first | (go_simp; done) | rfl) (by exact HRUN.out) ?_
        refine hK.out _ _ ?_ (fun hHeld => ?_)
        · (try dsimp only); first | done | ((first | exact hS | exact grown_below hbX | exact grown_trans (grown_below hbX) (grown_setCell w7 ⟨gr, i * 3 + 2, none⟩ _)))
        clear hK K
        try simp only [Act.put, List.getElem_toArray, List.getElem_cons_succ, List.getElem_cons_zero, List.setIfInBounds_toArray, List.set_cons_zero, List.set_cons_succ]
        first
          | (refine wpAnyH_take (i := 20) (v := ?_) rfl (by kernel_rfl) (by kernel_rfl) (by kernel_rfl) (fun _ _ _ h => h) (Or.inl ⟨by rfl, ?_⟩) hHeld ?_; rotate_left; (intro wq hSw; (try dsimp only at hSw); go_simp; done))
          | (refine wpAnyH_take (i := 20) (v := ?_) rfl (by kernel_rfl) (by kernel_rfl) (by kernel_rfl) (fun _ _ _ h => h) (Or.inl ⟨by rfl, ?_⟩) hHeld ?_; rotate_left; (intro wq hSw; (try dsimp only at hSw); go_simp; with_reducible rfl))
          | refine wpAnyH_take (i := 20) (v := undef) rfl (by kernel_rfl) (by kernel_rfl) (by kernel_rfl) (fun _ _ _ h => h) (Or.inr ⟨by rfl, rfl⟩) hHeld ?_
        try simp only [Act.put, List.getElem_toArray, List.getElem_cons_succ, List.getElem_cons_zero, List.setIfInBounds_toArray, List.set_cons_zero, List.set_cons_succ]
        first
          | (refine wpAnyH_take (i := 21) (v := ?_) rfl (by kernel_rfl) (by kernel_rfl) (by kernel_rfl) (fun _ _ _ h => h) (Or.inl ⟨by rfl, ?_⟩) hHeld ?_; rotate_left; (intro wq hSw; (try dsimp only at hSw); go_simp; done))
          | (refine wpAnyH_take (i := 21) (v := ?_) rfl (by kernel_rfl) (by kernel_rfl) (by kernel_rfl) (fun _ _ _ h => h) (Or.inl ⟨by rfl, ?_⟩) hHeld ?_; rotate_left; (intro wq hSw; (try dsimp only at hSw); go_simp; with_reducible rfl))
          | refine wpAnyH_take (i := 21) (v := undef) rfl (by kernel_rfl) (by kernel_rfl) (by kernel_rfl) (fun _ _ _ h => h) (Or.inr ⟨by rfl, rfl⟩) hHeld ?_
        try simp only [Act.put, List.getElem_toArray, List.getElem_cons_succ, List.getElem_cons_zero, List.setIfInBounds_toArray, List.set_cons_zero, List.set_cons_succ]
        refine wpAnyH_ready (rs := [22]) (by kernel_rfl) (by simp) ?_
        refine AllReadyH.cons rfl (fun K hK => ?_) AllReadyH.nil
        go_simp
        refine hK.out _ _ ?_ (fun hHeld => ?_)
        · (try dsimp only); first | done | ((first | exact hS | exact grown_below hbX | exact grown_trans (grown_below hbX) (grown_setCell w7 ⟨gr, i * 3 + 2, none⟩ _)))
        clear hK K
        try simp only [Act.put, List.getElem_toArray, List.getElem_cons_succ, List.getElem_cons_zero, List.setIfInBounds_toArray, List.set_cons_zero, List.set_cons_succ]
        refine wpAnyH_done (by kernel_rfl) ?_ _
        have hgrow := (ho6.2.row gr (by simp [rowOf]; omega)).1; have hO := OwFl.setAsk HO7F.out hcp HPX.out A7 (p.1.n + 1) c7; have hI : OwI (w7.setCell ⟨gr, i * 3 + 2, none⟩ (.slice A7 (p.1.n + 1) c7)) w.heap.size 3 A7 (p.1.n + 1) c7 (p.2 ++ [m.f]) := Ow.set (by simpa using HO7.out) (p := ⟨gr, i * 3 + 2, none⟩) (by intro q hq e; rw [HR7.out] at hq; injection hq with hq; simp at hq e; omega) _; have hK := Kp.block hK7 (Below.heap_setCell w7 ⟨gr, i * 3 + 2, none⟩ (.slice A7 (p.1.n + 1) c7) g hne); have h7 : A7 ≠ none := (fun e => by have := HR7.out; rw [e] at this; simp [rowOf] at this); have hGf := grown_own hG6 hHeld (fun q hq => by injection hq with hq; omega); have HALL := Lib.hid (And.intro hO (And.intro hI (And.intro hK hGf))); clear hO hI hK hGf hHeld hS y2' f2' y2 hfz z11 m1 hK7 hI6; go_wp2_with fail; go_end0; rw [HR.out]; exact StepK.asks rfl hF hFB hB lg HALL.out.2.2.1 HP.out HALL.out.1 HALL.out.2.1 h7 HALL.out.2.2.2 rfl
      refine AllReadyH.cons rfl (fun K hK => ?_) AllReadyH.nil
      go_simp; have hS' := hS; replace hS := grown_trans hS (grown_below (Below.new_ _ (.cells #[.int .i64 m.f] 3)))
      refine hK.out _ _ ?_ (fun hHeld => ?_)
      · (try dsimp only); first | done | ((first | exact hS | exact grown_below hbX | exact grown_trans (grown_below hbX) (grown_setCell w7 ⟨gr, i * 3 + 2, none⟩ _)))
      clear hK K
      try simp only [Act.put, List.getElem_toArray, List.getElem_cons_succ, List.getElem_cons_zero, List.setIfInBounds_toArray, List.set_cons_zero, List.set_cons_succ]
      refine wpAnyH_ready (rs := [15]) (by kernel_rfl) (by simp) ?_
      refine AllReadyH.cons rfl (fun K hK => ?_) AllReadyH.nil
      go_simp; go_at_call 47; refine (ClipI_any _ _ _ _ hpm.2.1 hpm.2.2 (by omega)).mono ?_; rintro e w9 ⟨rfl, rfl⟩; try go_wp2_with fail
      refine hK.out _ _ ?_ (fun hHeld => ?_)
      · (try dsimp only); first | done | ((first | exact hS | exact grown_below hbX | exact grown_trans (grown_below hbX) (grown_setCell w7 ⟨gr, i * 3 + 2, none⟩ _)))
      clear hK K
      try simp only [Act.put, List.getElem_toArray, List.getElem_cons_succ, List.getElem_cons_zero, List.setIfInBounds_toArray, List.set_cons_zero, List.set_cons_succ]
      refine wpAnyH_ready (rs := [19]) (by kernel_rfl) (by simp) ?_
      refine AllReadyH.cons rfl (fun K hK => ?_) AllReadyH.nil
      refine step_append_run (by rfl) (.tmp 64) (.tmp 67) 34 (by rfl) (.slice p.1.A p.1.n p.1.n) (.slice (some ⟨W6.heap.size, 0, none⟩) 1 1) (.slice A7 (p.1.n + 1) c7) (by first | (go_simp; done) | rfl) (by first | (go_simp; done) | rfl) (by exact HRUN.out) ?_
      refine hK.out _ _ ?_ (fun hHeld => ?_)
      · (try dsimp only); first | done | ((first | exact hS | exact grown_below hbX | exact grown_trans (grown_below hbX) (grown_setCell w7 ⟨gr, i * 3 + 2, none⟩ _)))
      clear hK K
      try simp only [Act.put, List.getElem_toArray, List.getElem_cons_succ, List.getElem_cons_zero, List.setIfInBounds_toArray, List.set_cons_zero, List.set_cons_succ]
      first
        | (refine wpAnyH_take (i := 20) (v := ?_) rfl (by kernel_rfl) (by kernel_rfl) (by kernel_rfl) (fun _ _ _ h => h) (Or.inl ⟨by rfl, ?_⟩) hHeld ?_; rotate_left; (intro wq hSw; (try dsimp only at hSw); go_simp; done))
        | (refine wpAnyH_take (i := 20) (v := ?_) rfl (by kernel_rfl) (by kernel_rfl) (by kernel_rfl) (fun _ _ _ h => h) (Or.inl ⟨by rfl, ?_⟩) hHeld ?_; rotate_left; (intro wq hSw; (try dsimp only at hSw); go_simp; with_reducible rfl))
        | refine wpAnyH_take (i := 20) (v := undef) rfl (by kernel_rfl) (by kernel_rfl) (by kernel_rfl) (fun _ _ _ h => h) (Or.inr ⟨by rfl, rfl⟩) hHeld ?_
      try simp only [Act.put, List.getElem_toArray, List.getElem_cons_succ, List.getElem_cons_zero, List.setIfInBounds_toArray, List.set_cons_zero, List.set_cons_succ]
      first
        | (refine wpAnyH_take (i := 21) (v := ?_) rfl (by kernel_rfl) (by kernel_rfl) (by kernel_rfl) (fun _ _ _ h => h) (Or.inl ⟨by rfl, ?_⟩) hHeld ?_; rotate_left; (intro wq hSw; (try dsimp only at hSw); go_simp; done))
        | (refine wpAnyH_take (i := 21) (v := ?_) rfl (by kernel_rfl) (by kernel_rfl) (by kernel_rfl) (fun _ _ _ h => h) (Or.inl ⟨by rfl, ?_⟩) hHeld ?_; rotate_left; (intro wq hSw; (try dsimp only at hSw); go_simp; with_reducible rfl))
        | refine wpAnyH_take (i := 21) (v := undef) rfl (by kernel_rfl) (by kernel_rfl) (by kernel_rfl) (fun _ _ _ h => h) (Or.inr ⟨by rfl, rfl⟩) hHeld ?_
      try simp only [Act.put, List.getElem_toArray, List.getElem_cons_succ, List.getElem_cons_zero, List.setIfInBounds_toArray, List.set_cons_zero, List.set_cons_succ]
      refine wpAnyH_ready (rs := [22]) (by kernel_rfl) (by simp) ?_
      refine AllReadyH.cons rfl (fun K hK => ?_) AllReadyH.nil
      go_simp
      refine hK.out _ _ ?_ (fun hHeld => ?_)
      · (try dsimp only); first | done | ((first | exact hS | exact grown_below hbX | exact grown_trans (grown_below hbX) (grown_setCell w7 ⟨gr, i * 3 + 2, none⟩ _)))
      clear hK K
      try simp only [Act.put, List.getElem_toArray, List.getElem_cons_succ, List.getElem_cons_zero, List.setIfInBounds_toArray, List.set_cons_zero, List.set_cons_succ]
      refine wpAnyH_done (by kernel_rfl) ?_ _
      have hgrow := (ho6.2.row gr (by simp [rowOf]; omega)).1; have hO := OwFl.setAsk HO7F.out hcp HPX.out A7 (p.1.n + 1) c7; have hI : OwI (w7.setCell ⟨gr, i * 3 + 2, none⟩ (.slice A7 (p.1.n + 1) c7)) w.heap.size 3 A7 (p.1.n + 1) c7 (p.2 ++ [m.f]) := Ow.set (by simpa using HO7.out) (p := ⟨gr, i * 3 + 2, none⟩) (by intro q hq e; rw [HR7.out] at hq; injection hq with hq; simp at hq e; omega) _; have hK := Kp.block hK7 (Below.heap_setCell w7 ⟨gr, i * 3 + 2, none⟩ (.slice A7 (p.1.n + 1) c7) g hne); have h7 : A7 ≠ none := (fun e => by have := HR7.out; rw [e] at this; simp [rowOf] at this); have hGf := grown_own hG6 hHeld (fun q hq => by injection hq with hq; omega); have HALL := Lib.hid (And.intro hO (And.intro hI (And.intro hK hGf))); clear hO hI hK hGf hHeld hS y2' f2' y2 hfz z11 m1 hK7 hI6; go_wp2_with fail; go_end0; rw [HR.out]; exact StepK.asks rfl hF hFB hB lg HALL.out.2.2.1 HP.out HALL.out.1 HALL.out.2.1 h7 HALL.out.2.2.2 rfl
    refine AllReadyH.cons rfl (fun K hK => ?_) AllReadyH.nil
    go_simp; have hS' := hS; replace hS := grown_trans hS (grown_below (Below.new_ _ (.cells #[.int .i64 m.f] 3)))
    refine hK.out _ _ ?_ (fun hHeld => ?_)
    · (try dsimp only); first | done | ((first | exact hS | exact grown_below hbX | exact grown_trans (grown_below hbX) (grown_setCell w7 ⟨gr, i * 3 + 2, none⟩ _)))
    clear hK K
    try simp only [Act.put, List.getElem_toArray, List.getElem_cons_succ, List.getElem_cons_zero, List.setIfInBounds_toArray, List.set_cons_zero, List.set_cons_succ]
    refine wpAnyH_ready (rs := [14]) (by kernel_rfl) (by simp) ?_
    refine AllReadyH.cons rfl (fun K hK => ?_) AllReadyH.nil
    go_simp
    refine hK.out _ _ ?_ (fun hHeld => ?_)
    · (try dsimp only); first | done | ((first | exact hS | exact grown_below hbX | exact grown_trans (grown_below hbX) (grown_setCell w7 ⟨gr, i * 3 + 2, none⟩ _)))
    clear hK K
    try simp only [Act.put, List.getElem_toArray, List.getElem_cons_succ, List.getElem_cons_zero, List.setIfInBounds_toArray, List.set_cons_zero, List.set_cons_succ]
    refine wpAnyH_ready (rs := [15]) (by kernel_rfl) (by simp) ?_
    refine AllReadyH.cons rfl (fun K hK => ?_) AllReadyH.nil
    go_simp; go_at_call 47; refine (ClipI_any _ _ _ _ hpm.2.1 hpm.2.2 (by omega)).mono ?_; rintro e w9 ⟨rfl, rfl⟩; try go_wp2_with fail
    refine hK.out _ _ ?_ (fun hHeld => ?_)
    · (try dsimp only); first | done | ((first | exact hS | exact grown_below hbX | exact grown_trans (grown_below hbX) (grown_setCell w7 ⟨gr, i * 3 + 2, none⟩ _)))
    clear hK K
    try simp only [Act.put, List.getElem_toArray, List.getElem_cons_succ, List.getElem_cons_zero, List.setIfInBounds_toArray, List.set_cons_zero, List.set_cons_succ]
    refine wpAnyH_ready (rs := [19]) (by kernel_rfl) (by simp) ?_
    refine AllReadyH.cons rfl (fun K hK => ?_) AllReadyH.nil
    refine step_append_run (by rfl) (.tmp 64) (.tmp 67) 34 (by rfl) (.slice p.1.A p.1.n p.1.n) (.slice (some ⟨W6.heap.size, 0, none⟩) 1 1) (.slice A7 (p.1.n + 1) c7) (by first | (go_simp; done) | rfl) (by first | (go_simp; done) | rfl) (by exact HRUN.out) ?_
    refine hK.out _ _ ?_ (fun hHeld => ?_)
    · (try dsimp only); first | done | ((first | exact hS | exact grown_below hbX | exact grown_trans (grown_below hbX) (grown_setCell w7 ⟨gr, i * 3 + 2, none⟩ _)))
    clear hK K
    try simp only [Act.put, List.getElem_toArray, List.getElem_cons_succ, List.getElem_cons_zero, List.setIfInBounds_toArray, List.set_cons_zero, List.set_cons_succ]
    first
      | (refine wpAnyH_take (i := 20) (v := ?_) rfl (by kernel_rfl) (by kernel_rfl) (by kernel_rfl) (fun _ _ _ h => h) (Or.inl ⟨by rfl, ?_⟩) hHeld ?_; rotate_left; (intro wq hSw; (try dsimp only at hSw); go_simp; done))
      | (refine wpAnyH_take (i := 20) (v := ?_) rfl (by kernel_rfl) (by kernel_rfl) (by kernel_rfl) (fun _ _ _ h => h) (Or.inl ⟨by rfl, ?_⟩) hHeld ?_; rotate_left; (intro wq hSw; (try dsimp only at hSw); go_simp; with_reducible rfl))
      | refine wpAnyH_take (i := 20) (v := undef) rfl (by kernel_rfl) (by kernel_rfl) (by kernel_rfl) (fun _ _ _ h => h) (Or.inr ⟨by rfl, rfl⟩) hHeld ?_
    try simp only [Act.put, List.getElem_toArray, List.getElem_cons_succ, List.getElem_cons_zero, List.setIfInBounds_toArray, List.set_cons_zero, List.set_cons_succ]
    first
      | (refine wpAnyH_take (i := 21) (v := ?_) rfl (by kernel_rfl) (by kernel_rfl) (by kernel_rfl) (fun _ _ _ h => h) (Or.inl ⟨by rfl, ?_⟩) hHeld ?_; rotate_left; (intro wq hSw; (try dsimp only at hSw); go_simp; done))
      | (refine wpAnyH_take (i := 21) (v := ?_) rfl (by kernel_rfl) (by kernel_rfl) (by kernel_rfl) (fun _ _ _ h => h) (Or.inl ⟨by rfl, ?_⟩) hHeld ?_; rotate_left; (intro wq hSw; (try dsimp only at hSw); go_simp; with_reducible rfl))
      | refine wpAnyH_take (i := 21) (v := undef) rfl (by kernel_rfl) (by kernel_rfl) (by kernel_rfl) (fun _ _ _ h => h) (Or.inr ⟨by rfl, rfl⟩) hHeld ?_
    try simp only [Act.put, List.getElem_toArray, List.getElem_cons_succ, List.getElem_cons_zero, List.setIfInBounds_toArray, List.set_cons_zero, List.set_cons_succ]
    refine wpAnyH_ready (rs := [22]) (by kernel_rfl) (by simp) ?_
    refine AllReadyH.cons rfl (fun K hK => ?_) AllReadyH.nil
    go_simp
    refine hK.out _ _ ?_ (fun hHeld => ?_)
    · (try dsimp only); first | done | ((first | exact hS | exact grown_below hbX | exact grown_trans (grown_below hbX) (grown_setCell w7 ⟨gr, i * 3 + 2, none⟩ _)))
    clear hK K
    try simp only [Act.put, List.getElem_toArray, List.getElem_cons_succ, List.getElem_cons_zero, List.setIfInBounds_toArray, List.set_cons_zero, List.set_cons_succ]
    refine wpAnyH_done (by kernel_rfl) ?_ _
    have hgrow := (ho6.2.row gr (by simp [rowOf]; omega)).1; have hO := OwFl.setAsk HO7F.out hcp HPX.out A7 (p.1.n + 1) c7; have hI : OwI (w7.setCell ⟨gr, i * 3 + 2, none⟩ (.slice A7 (p.1.n + 1) c7)) w.heap.size 3 A7 (p.1.n + 1) c7 (p.2 ++ [m.f]) := Ow.set (by simpa using HO7.out) (p := ⟨gr, i * 3 + 2, none⟩) (by intro q hq e; rw [HR7.out] at hq; injection hq with hq; simp at hq e; omega) _; have hK := Kp.block hK7 (Below.heap_setCell w7 ⟨gr, i * 3 + 2, none⟩ (.slice A7 (p.1.n + 1) c7) g hne); have h7 : A7 ≠ none := (fun e => by have := HR7.out; rw [e] at this; simp [rowOf] at this); have hGf := grown_own hG6 hHeld (fun q hq => by injection hq with hq; omega); have HALL := Lib.hid (And.intro hO (And.intro hI (And.intro hK hGf))); clear hO hI hK hGf hHeld hS y2' f2' y2 hfz z11 m1 hK7 hI6; go_wp2_with fail; go_end0; rw [HR.out]; exact StepK.asks rfl hF hFB hB lg HALL.out.2.2.1 HP.out HALL.out.1 HALL.out.2.1 h7 HALL.out.2.2.2 rfl
end Go.Proofs.Ytfahmfaakjnpcaa
