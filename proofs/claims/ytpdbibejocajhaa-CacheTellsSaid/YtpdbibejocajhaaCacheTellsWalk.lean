/-
  The walk of the statement CacheTells. Conditions: none.
-/
import Derived.Test.YtpdbibejocajhaaKnWakes
namespace Go.Proofs.Ytpdbibejocajhaa
set_option linter.unusedVariables false
set_option linter.unusedSimpArgs false
open Go.RowKit Go.Shelf

theorem cf_cells {w : World} {g : Nat} {x : Cf} {t : TypeId} (h : w.heap[g]? = some (.cells #[.int .i64 x.1, .int .i64 x.2.1, .int .i64 x.2.2.1, .int .i64 x.2.2.2.1, .int .i64 x.2.2.2.2.1, .int .i64 x.2.2.2.2.2.1, .int .i64 x.2.2.2.2.2.2.1, .int .i64 x.2.2.2.2.2.2.2.1, .int .i64 x.2.2.2.2.2.2.2.2] t (0, 0))) :
    w.cell? ⟨g, 0, none⟩ = some (.int .i64 x.1) ∧ w.cell? ⟨g, 1, none⟩ = some (.int .i64 x.2.1) ∧ w.cell? ⟨g, 2, none⟩ = some (.int .i64 x.2.2.1) ∧ w.cell? ⟨g, 3, none⟩ = some (.int .i64 x.2.2.2.1) ∧ w.cell? ⟨g, 4, none⟩ = some (.int .i64 x.2.2.2.2.1) ∧ w.cell? ⟨g, 5, none⟩ = some (.int .i64 x.2.2.2.2.2.1) ∧ w.cell? ⟨g, 6, none⟩ = some (.int .i64 x.2.2.2.2.2.2.1) ∧ w.cell? ⟨g, 7, none⟩ = some (.int .i64 x.2.2.2.2.2.2.2.1) ∧ w.cell? ⟨g, 8, none⟩ = some (.int .i64 x.2.2.2.2.2.2.2.2) := by
  refine ⟨?_, ?_, ?_, ?_, ?_, ?_, ?_, ?_, ?_⟩ <;> simp [World.cell?, h]
theorem eqKn_self (x : Kn) (w : World) : (Op.equalIn 10000 30 (.agg #[.string x.1, .string x.2.1, .int .i64 x.2.2.1, .int .i64 x.2.2.2]) (.agg #[.string x.1, .string x.2.1, .int .i64 x.2.2.1, .int .i64 x.2.2.2])).run Try.prog w = .ok true w := by
  have := eqKn x x w
  simpa [valKn] using this
theorem get_at {A : Option Addr} {n c : Nat} {l : List Kn} {s : ByteArray} {now : Int} {w : World} (hl : Kns w w.heap.size A n l) (hn : n ≤ 1000) {G : Kn} {b : Bool} (hG : gotK (getK l s now) = G) (hb : (getK l s now).isSome = b) :
    Calls Try.prog 13 #[.slice A n c, .string s, .int .i64 now] w fun e w' => e = .returned (.tuple #[.agg #[.string G.1, .string G.2.1, .int .i64 G.2.2.1, .int .i64 G.2.2.2], .bool b]) ∧ Below w.heap.size w w' := by
  subst hG hb
  exact GetKn_any A n c l s now w hl hn
theorem rget_at {A : Option Addr} {n c : Nat} {l : List Kn} {s : ByteArray} {now : Int} {w : World} (hl : Kns w w.heap.size A n l) (hn : n ≤ 1000) {G : Kn} {b : Bool} (hG : gotK (getK l s now) = G) (hb : (getK l s now).isSome = b) :
    Calls Try.prog 18 #[.slice A n c, .string s, .int .i64 now] w fun e w' => e = .returned (.tuple #[.agg #[.string G.1, .string G.2.1, .int .i64 G.2.2.1, .int .i64 G.2.2.2], .bool b]) ∧ Below w.heap.size w w' := by
  subst hG hb
  exact rGet_any A n c l s now w hl hn
theorem entry_at {cf : Cf} {name row : ByteArray} {er now : Int} {w : World} {G : Kn} (hG : entryK cf.2.2.2.2.2.2.1 cf.2.2.2.2.2.2.2.1 name row er now = G) :
    Calls Try.prog 17 #[.agg #[.int .i64 cf.1, .int .i64 cf.2.1, .int .i64 cf.2.2.1, .int .i64 cf.2.2.2.1, .int .i64 cf.2.2.2.2.1, .int .i64 cf.2.2.2.2.2.1, .int .i64 cf.2.2.2.2.2.2.1, .int .i64 cf.2.2.2.2.2.2.2.1, .int .i64 cf.2.2.2.2.2.2.2.2], .string name, .string row, .int .i64 er, .int .i64 now] w fun e w' => e = .returned (.agg #[.string G.1, .string G.2.1, .int .i64 G.2.2.1, .int .i64 G.2.2.2]) ∧ Below w.heap.size w w' := by
  subst hG
  exact EntryKn_any cf name row er now w
theorem rentry_at {cf : Cf} {name row : ByteArray} {er now : Int} {w : World} {G : Kn} (hG : entryK cf.2.2.2.2.2.2.1 cf.2.2.2.2.2.2.2.1 name row er now = G) :
    Calls Try.prog 20 #[.agg #[.int .i64 cf.1, .int .i64 cf.2.1, .int .i64 cf.2.2.1, .int .i64 cf.2.2.2.1, .int .i64 cf.2.2.2.2.1, .int .i64 cf.2.2.2.2.2.1, .int .i64 cf.2.2.2.2.2.2.1, .int .i64 cf.2.2.2.2.2.2.2.1, .int .i64 cf.2.2.2.2.2.2.2.2], .string name, .string row, .int .i64 er, .int .i64 now] w fun e w' => e = .returned (.agg #[.string G.1, .string G.2.1, .int .i64 G.2.2.1, .int .i64 G.2.2.2]) ∧ Below w.heap.size w w' := by
  subst hG
  exact rEntry_any cf name row er now w
theorem put_at {A : Option Addr} {n c : Nat} {l : List Kn} {A2 : Option Addr} {n2 c2 : Nat} {more : List Kn} {w : World} (hl : Kns w w.heap.size A n l) (hm : Kns w w.heap.size A2 n2 more) (hn : n ≤ 500) (hn2 : n2 ≤ 400) {R : List Kn} {m : Nat} (hR : putK l more = R) (hRm : R.length = m) :
    Calls Try.prog 16 #[.slice A n c, .slice A2 n2 c2] w fun e w' => ∃ A' c', e = .returned (.slice A' m c') ∧ Kns w' w'.heap.size A' m R ∧ Below w.heap.size w w' := by
  subst hR hRm
  refine (PutKn_any A n c l A2 n2 c2 more w hl hm hn hn2).mono ?_
  rintro e w' ⟨A', c', rfl, ho, hb⟩
  exact ⟨A', c', rfl, ho.recs, hb⟩
theorem rput_at {A : Option Addr} {n c : Nat} {l : List Kn} {A2 : Option Addr} {n2 c2 : Nat} {more : List Kn} {w : World} (hl : Kns w w.heap.size A n l) (hm : Kns w w.heap.size A2 n2 more) (hn : n ≤ 500) (hn2 : n2 ≤ 400) {R : List Kn} {m : Nat} (hR : putK l more = R) (hRm : R.length = m) :
    Calls Try.prog 21 #[.slice A n c, .slice A2 n2 c2] w fun e w' => ∃ A' c', e = .returned (.slice A' m c') ∧ Kns w' w'.heap.size A' m R ∧ Below w.heap.size w w' := by
  subst hR hRm
  refine (rPut_any A n c l A2 n2 c2 more w hl hm hn hn2).mono ?_
  rintro e w' ⟨A', c', rfl, ho, hb⟩
  exact ⟨A', c', rfl, ho.recs, hb⟩
theorem fresh_at {A : Option Addr} {n c : Nat} {l : List Kn} {now : Int} {w : World} (hl : Kns w w.heap.size A n l) (hn : n ≤ 1000) {R : List Kn} {m : Nat} (hR : freshK l now = R) (hRm : R.length = m) :
    Calls Try.prog 11 #[.slice A n c, .int .i64 now] w fun e w' => ∃ A' c', e = .returned (.slice A' m c') ∧ Kns w' w'.heap.size A' m R ∧ Below w.heap.size w w' := by
  subst hR hRm
  refine (FreshKn_any A n c l now w hl hn).mono ?_
  rintro e w' ⟨A', c', rfl, ho, hb⟩
  exact ⟨A', c', rfl, ho.recs, hb⟩
theorem rfresh_at {A : Option Addr} {n c : Nat} {l : List Kn} {now : Int} {w : World} (hl : Kns w w.heap.size A n l) (hn : n ≤ 1000) {R : List Kn} {m : Nat} (hR : freshK l now = R) (hRm : R.length = m) :
    Calls Try.prog 22 #[.slice A n c, .int .i64 now] w fun e w' => ∃ A' c', e = .returned (.slice A' m c') ∧ Kns w' w'.heap.size A' m R ∧ Below w.heap.size w w' := by
  subst hR hRm
  refine (rFresh_any A n c l now w hl hn).mono ?_
  rintro e w' ⟨A', c', rfl, ho, hb⟩
  exact ⟨A', c', rfl, ho.recs, hb⟩
theorem same_at {A1 A2 : Option Addr} {n c1 c2 B1 B2 : Nat} {R : List Kn} {w : World} (h1 : Kns w B1 A1 n R) (h2 : Kns w B2 A2 n R) (hn : n ≤ 100000) :
    Calls Try.prog 12 #[.slice A1 n c1, .slice A2 n c2] w fun e w' => e = .returned (.bool true) ∧ Below w.heap.size w w' :=
  (rSame11_any A1 A2 n n c1 c2 B1 B2 R R w h1 h2 hn hn).mono fun e w' ⟨a, b⟩ => ⟨by rw [a]; simp, b⟩
structure StT (w0 w : World) (A : Option Addr) (n : Nat) (l : List Kn) (A2 : Option Addr) (n2 : Nat) (more : List Kn) (gc : Nat) (cf : Cf) : Prop where
  b : Below w0.heap.size w0 w
  l : Kns w w.heap.size A n l
  m : Kns w w.heap.size A2 n2 more
  c : w.heap[gc]? = some (.cells #[.int .i64 cf.1, .int .i64 cf.2.1, .int .i64 cf.2.2.1, .int .i64 cf.2.2.2.1, .int .i64 cf.2.2.2.2.1, .int .i64 cf.2.2.2.2.2.1, .int .i64 cf.2.2.2.2.2.2.1, .int .i64 cf.2.2.2.2.2.2.2.1, .int .i64 cf.2.2.2.2.2.2.2.2] 40 (0, 0))
theorem StT.lc {w0 w : World} {A : Option Addr} {n : Nat} {l : List Kn} {A2 : Option Addr} {n2 : Nat} {more : List Kn} {gc : Nat} {cf : Cf} (h : StT w0 w A n l A2 n2 more gc cf) : gc < w.heap.size := (Array.getElem?_eq_some_iff.1 h.c).1
theorem StT.next {w0 w w' : World} {A : Option Addr} {n : Nat} {l : List Kn} {A2 : Option Addr} {n2 : Nat} {more : List Kn} {gc : Nat} {cf : Cf} (h : StT w0 w A n l A2 n2 more gc cf) (hb : Below w.heap.size w w') : StT w0 w' A n l A2 n2 more gc cf :=
  ⟨h.b.trans (hb.mono h.b.size), (h.l.below hb).more hb.size, (h.m.below hb).more hb.size, (hb.block _ h.lc).trans h.c⟩
theorem kn_keep {w w' : World} {g : Nat} {cs : Array Value} {t : TypeId} (hb : Below w.heap.size w w') (h : w.heap[g]? = some (.cells cs t (0, 0))) : w'.heap[g]? = some (.cells cs t (0, 0)) := (hb.block _ (Array.getElem?_eq_some_iff.1 h).1).trans h
set_option maxRecDepth 100000 in
set_option maxHeartbeats 16000000 in
theorem CacheTells_walk (cf : Cf) (A1 : Option Addr) (n1 c1 : Nat) (l : List Kn) (A2 : Option Addr) (n2 c2 : Nat) (more : List Kn) (name row : ByteArray) (er now : Int) (w : World) (hl : Kns w w.heap.size A1 n1 l) (hn1 : n1 ≤ 9223372036854775807) (hm : Kns w w.heap.size A2 n2 more) (hn2 : n2 ≤ 9223372036854775807) :
    Calls Try.prog 6 #[.agg #[.int .i64 cf.1, .int .i64 cf.2.1, .int .i64 cf.2.2.1, .int .i64 cf.2.2.2.1, .int .i64 cf.2.2.2.2.1, .int .i64 cf.2.2.2.2.2.1, .int .i64 cf.2.2.2.2.2.2.1, .int .i64 cf.2.2.2.2.2.2.2.1, .int .i64 cf.2.2.2.2.2.2.2.2], .slice A1 n1 c1, .slice A2 n2 c2, .string name, .string row, .int .i64 er, .int .i64 now] w fun e w' => e = .returned (.bool true) ∧ Below w.heap.size w w' := by
  have HL := Lib.hid hl.1
  have HM := Lib.hid hm.1
  have hst : StT w (w.alloc (.cells #[.int .i64 cf.1, .int .i64 cf.2.1, .int .i64 cf.2.2.1, .int .i64 cf.2.2.2.1, .int .i64 cf.2.2.2.2.1, .int .i64 cf.2.2.2.2.2.1, .int .i64 cf.2.2.2.2.2.2.1, .int .i64 cf.2.2.2.2.2.2.2.1, .int .i64 cf.2.2.2.2.2.2.2.2] 40)) A1 n1 l A2 n2 more w.heap.size cf := ⟨Below.new_ w _, (hl.alloc (Nat.le_refl _) _).more (by simp), (hm.alloc (Nat.le_refl _) _).more (by simp), heap_alloc_new w _⟩
  clear hl hm
  go_enter Try.func6, Try.ntmps6
  go_wp2_with fail
  refine (Great11_any _ _ _ l _ hst.l hn1).mono ?_
  rintro e w1 ⟨b1, rfl, h60, hb1⟩
  replace hst := hst.next hb1
  clear hb1
  cases b1
  · have hn3 : n1 ≤ 60 := h60 rfl
    clear h60
    go_wp2_with fail
    refine (Great11_any _ _ _ more _ hst.m hn2).mono ?_
    rintro e w2 ⟨b2, rfl, h60, hb2⟩
    replace hst := hst.next hb2
    clear hb2
    cases b2
    · have hn4 : n2 ≤ 60 := h60 rfl
      clear h60
      cases hlong : decide (2000 < wrap64 ((name.size : Int) + (row.size : Int)))
      · obtain ⟨G, hG⟩ : ∃ G, gotK (getK l name now) = G := ⟨_, rfl⟩
        obtain ⟨bG, hbG⟩ : ∃ b, (getK l name now).isSome = b := ⟨_, rfl⟩
        obtain ⟨U1, hU1⟩ : ∃ u, (untilK l).1 = u := ⟨_, rfl⟩
        obtain ⟨U2, hU2⟩ : ∃ u, (untilK l).2 = u := ⟨_, rfl⟩
        obtain ⟨En, hEn⟩ : ∃ G, entryK cf.2.2.2.2.2.2.1 cf.2.2.2.2.2.2.2.1 name row er now = G := ⟨_, rfl⟩
        obtain ⟨R, hR⟩ : ∃ R, putK l more = R := ⟨_, rfl⟩
        obtain ⟨mR, hmR⟩ : ∃ m, R.length = m := ⟨_, rfl⟩
        obtain ⟨F, hF⟩ : ∃ F, freshK l now = F := ⟨_, rfl⟩
        obtain ⟨mF, hmF⟩ : ∃ m, F.length = m := ⟨_, rfl⟩
        have hmRb : mR ≤ 120 := by have := putK_le more l; rw [hR, hmR, HL.out, HM.out] at this; omega
        have hmFb : mF ≤ 60 := by have := freshK_le l now; rw [hF, hmF, HL.out] at this; omega
        have HG := Lib.hid hG
        have HbG := Lib.hid hbG
        have HU1 := Lib.hid hU1
        have HU2 := Lib.hid hU2
        have HEn := Lib.hid hEn
        have HR := Lib.hid hR
        have HmR := Lib.hid hmR
        have HF := Lib.hid hF
        have HmF := Lib.hid hmF
        clear hG hbG hU1 hU2 hEn hR hmR hF hmF
        go_wp2_with fail
        refine (get_at hst.l (by omega) HG.out HbG.out).mono ?_
        rintro e w3 ⟨rfl, hb3⟩
        have k3 := heap_alloc_new w3 (.cells #[.string G.1, .string G.2.1, .int .i64 G.2.2.1, .int .i64 G.2.2.2] 30)
        replace hst := (hst.next hb3).next (Below.new_ w3 (.cells #[.string G.1, .string G.2.1, .int .i64 G.2.2.1, .int .i64 G.2.2.2] 30))
        clear hb3
        go_wp2_with fail
        refine (rget_at hst.l (by omega) HG.out HbG.out).mono ?_
        rintro e w4 ⟨rfl, hb4⟩
        replace k3 := kn_keep (Below.new_ w4 (.cells #[.string G.1, .string G.2.1, .int .i64 G.2.2.1, .int .i64 G.2.2.2] 30)) (kn_keep hb4 k3)
        have k4 := heap_alloc_new w4 (.cells #[.string G.1, .string G.2.1, .int .i64 G.2.2.1, .int .i64 G.2.2.2] 30)
        replace hst := (hst.next hb4).next (Below.new_ w4 (.cells #[.string G.1, .string G.2.1, .int .i64 G.2.2.1, .int .i64 G.2.2.2] 30))
        clear hb4
        go_wp2_with fail
        refine (UntilKn_any _ _ _ l _ hst.l (by omega)).mono ?_
        rw [HU1.out, HU2.out]
        rintro e w5 ⟨rfl, hb5⟩
        replace k3 := kn_keep hb5 k3
        replace k4 := kn_keep hb5 k4
        replace hst := hst.next hb5
        clear hb5
        go_wp2_with fail
        refine (rUntil_any _ _ _ l _ hst.l (by omega)).mono ?_
        rw [HU1.out, HU2.out]
        rintro e w6 ⟨rfl, hb6⟩
        replace k3 := kn_keep hb6 k3
        replace k4 := kn_keep hb6 k4
        replace hst := hst.next hb6
        clear hb6
        have lC := hst.lc
        have l3 := (Array.getElem?_eq_some_iff.1 k3).1
        have l4 := (Array.getElem?_eq_some_iff.1 k4).1
        have hE1 := fun wx => eqKn_self G wx
        have hE2 := fun wx => eqKn_self En wx
        go_upto_region 7 with fail
        have hS : Below w6.heap.size w6 w6.drew := (Below.refl _ _).drew
        refine wp_region_held_drew (S := (fun wx => Below w6.heap.size w6 wx)) (by kernel_rfl) ?_ (fun hHeld => ?_)
        · (try dsimp only); first | done | (exact hS)
        first
          | (refine wpAnyH_take (i := 0) (v := ?_) rfl (by kernel_rfl) (by kernel_rfl) (by kernel_rfl) (fun _ _ _ h => h) (Or.inl ⟨by rfl, ?_⟩) hHeld ?_; rotate_left; (intro wq hSw; (try dsimp only at hSw); obtain ⟨v0, v1, v2, v3⟩ := kn_cells ((hSw.block _ l3).trans k3); go_simp; done))
          | (refine wpAnyH_take (i := 0) (v := ?_) rfl (by kernel_rfl) (by kernel_rfl) (by kernel_rfl) (fun _ _ _ h => h) (Or.inl ⟨by rfl, ?_⟩) hHeld ?_; rotate_left; (intro wq hSw; (try dsimp only at hSw); obtain ⟨v0, v1, v2, v3⟩ := kn_cells ((hSw.block _ l3).trans k3); go_simp; with_reducible rfl))
          | refine wpAnyH_take (i := 0) (v := undef) rfl (by kernel_rfl) (by kernel_rfl) (by kernel_rfl) (fun _ _ _ h => h) (Or.inr ⟨by rfl, rfl⟩) hHeld ?_
        try simp only [Act.put, List.getElem_toArray, List.getElem_cons_succ, List.getElem_cons_zero, List.setIfInBounds_toArray, List.set_cons_zero, List.set_cons_succ]
        first
          | (refine wpAnyH_take (i := 1) (v := ?_) rfl (by kernel_rfl) (by kernel_rfl) (by kernel_rfl) (fun _ _ _ h => h) (Or.inl ⟨by rfl, ?_⟩) hHeld ?_; rotate_left; (intro wq hSw; (try dsimp only at hSw); obtain ⟨v0, v1, v2, v3⟩ := kn_cells ((hSw.block _ l4).trans k4); go_simp; done))
          | (refine wpAnyH_take (i := 1) (v := ?_) rfl (by kernel_rfl) (by kernel_rfl) (by kernel_rfl) (fun _ _ _ h => h) (Or.inl ⟨by rfl, ?_⟩) hHeld ?_; rotate_left; (intro wq hSw; (try dsimp only at hSw); obtain ⟨v0, v1, v2, v3⟩ := kn_cells ((hSw.block _ l4).trans k4); go_simp; with_reducible rfl))
          | refine wpAnyH_take (i := 1) (v := undef) rfl (by kernel_rfl) (by kernel_rfl) (by kernel_rfl) (fun _ _ _ h => h) (Or.inr ⟨by rfl, rfl⟩) hHeld ?_
        try simp only [Act.put, List.getElem_toArray, List.getElem_cons_succ, List.getElem_cons_zero, List.setIfInBounds_toArray, List.set_cons_zero, List.set_cons_succ]
        first
          | (refine wpAnyH_take (i := 2) (v := ?_) rfl (by kernel_rfl) (by kernel_rfl) (by kernel_rfl) (fun _ _ _ h => h) (Or.inl ⟨by rfl, ?_⟩) hHeld ?_; rotate_left; (intro wq hSw; (try dsimp only at hSw); go_simp; done))
          | (refine wpAnyH_take (i := 2) (v := ?_) rfl (by kernel_rfl) (by kernel_rfl) (by kernel_rfl) (fun _ _ _ h => h) (Or.inl ⟨by rfl, ?_⟩) hHeld ?_; rotate_left; (intro wq hSw; (try dsimp only at hSw); go_simp; with_reducible rfl))
          | refine wpAnyH_take (i := 2) (v := undef) rfl (by kernel_rfl) (by kernel_rfl) (by kernel_rfl) (fun _ _ _ h => h) (Or.inr ⟨by rfl, rfl⟩) hHeld ?_
        try simp only [Act.put, List.getElem_toArray, List.getElem_cons_succ, List.getElem_cons_zero, List.setIfInBounds_toArray, List.set_cons_zero, List.set_cons_succ]
        first
          | (refine wpAnyH_take (i := 3) (v := ?_) rfl (by kernel_rfl) (by kernel_rfl) (by kernel_rfl) (fun _ _ _ h => h) (Or.inl ⟨by rfl, ?_⟩) hHeld ?_; rotate_left; (intro wq hSw; (try dsimp only at hSw); go_simp; done))
          | (refine wpAnyH_take (i := 3) (v := ?_) rfl (by kernel_rfl) (by kernel_rfl) (by kernel_rfl) (fun _ _ _ h => h) (Or.inl ⟨by rfl, ?_⟩) hHeld ?_; rotate_left; (intro wq hSw; (try dsimp only at hSw); go_simp; with_reducible rfl))
          | refine wpAnyH_take (i := 3) (v := undef) rfl (by kernel_rfl) (by kernel_rfl) (by kernel_rfl) (fun _ _ _ h => h) (Or.inr ⟨by rfl, rfl⟩) hHeld ?_
        try simp only [Act.put, List.getElem_toArray, List.getElem_cons_succ, List.getElem_cons_zero, List.setIfInBounds_toArray, List.set_cons_zero, List.set_cons_succ]
        first
          | (refine wpAnyH_take (i := 4) (v := ?_) rfl (by kernel_rfl) (by kernel_rfl) (by kernel_rfl) (fun _ _ _ h => h) (Or.inl ⟨by rfl, ?_⟩) hHeld ?_; rotate_left; (intro wq hSw; (try dsimp only at hSw); go_simp; done))
          | (refine wpAnyH_take (i := 4) (v := ?_) rfl (by kernel_rfl) (by kernel_rfl) (by kernel_rfl) (fun _ _ _ h => h) (Or.inl ⟨by rfl, ?_⟩) hHeld ?_; rotate_left; (intro wq hSw; (try dsimp only at hSw); go_simp; with_reducible rfl))
          | refine wpAnyH_take (i := 4) (v := undef) rfl (by kernel_rfl) (by kernel_rfl) (by kernel_rfl) (fun _ _ _ h => h) (Or.inr ⟨by rfl, rfl⟩) hHeld ?_
        try simp only [Act.put, List.getElem_toArray, List.getElem_cons_succ, List.getElem_cons_zero, List.setIfInBounds_toArray, List.set_cons_zero, List.set_cons_succ]
        first
          | (refine wpAnyH_take (i := 5) (v := ?_) rfl (by kernel_rfl) (by kernel_rfl) (by kernel_rfl) (fun _ _ _ h => h) (Or.inl ⟨by rfl, ?_⟩) hHeld ?_; rotate_left; (intro wq hSw; (try dsimp only at hSw); go_simp; done))
          | (refine wpAnyH_take (i := 5) (v := ?_) rfl (by kernel_rfl) (by kernel_rfl) (by kernel_rfl) (fun _ _ _ h => h) (Or.inl ⟨by rfl, ?_⟩) hHeld ?_; rotate_left; (intro wq hSw; (try dsimp only at hSw); go_simp; with_reducible rfl))
          | refine wpAnyH_take (i := 5) (v := undef) rfl (by kernel_rfl) (by kernel_rfl) (by kernel_rfl) (fun _ _ _ h => h) (Or.inr ⟨by rfl, rfl⟩) hHeld ?_
        try simp only [Act.put, List.getElem_toArray, List.getElem_cons_succ, List.getElem_cons_zero, List.setIfInBounds_toArray, List.set_cons_zero, List.set_cons_succ]
        first
          | (refine wpAnyH_take (i := 6) (v := ?_) rfl (by kernel_rfl) (by kernel_rfl) (by kernel_rfl) (fun _ _ _ h => h) (Or.inl ⟨by rfl, ?_⟩) hHeld ?_; rotate_left; (intro wq hSw; (try dsimp only at hSw); go_simp; done))
          | (refine wpAnyH_take (i := 6) (v := ?_) rfl (by kernel_rfl) (by kernel_rfl) (by kernel_rfl) (fun _ _ _ h => h) (Or.inl ⟨by rfl, ?_⟩) hHeld ?_; rotate_left; (intro wq hSw; (try dsimp only at hSw); go_simp; with_reducible rfl))
          | refine wpAnyH_take (i := 6) (v := undef) rfl (by kernel_rfl) (by kernel_rfl) (by kernel_rfl) (fun _ _ _ h => h) (Or.inr ⟨by rfl, rfl⟩) hHeld ?_
        try simp only [Act.put, List.getElem_toArray, List.getElem_cons_succ, List.getElem_cons_zero, List.setIfInBounds_toArray, List.set_cons_zero, List.set_cons_succ]
        first
          | (refine wpAnyH_take (i := 7) (v := ?_) rfl (by kernel_rfl) (by kernel_rfl) (by kernel_rfl) (fun _ _ _ h => h) (Or.inl ⟨by rfl, ?_⟩) hHeld ?_; rotate_left; (intro wq hSw; (try dsimp only at hSw); go_simp; done))
          | (refine wpAnyH_take (i := 7) (v := ?_) rfl (by kernel_rfl) (by kernel_rfl) (by kernel_rfl) (fun _ _ _ h => h) (Or.inl ⟨by rfl, ?_⟩) hHeld ?_; rotate_left; (intro wq hSw; (try dsimp only at hSw); go_simp; with_reducible rfl))
          | refine wpAnyH_take (i := 7) (v := undef) rfl (by kernel_rfl) (by kernel_rfl) (by kernel_rfl) (fun _ _ _ h => h) (Or.inr ⟨by rfl, rfl⟩) hHeld ?_
        try simp only [Act.put, List.getElem_toArray, List.getElem_cons_succ, List.getElem_cons_zero, List.setIfInBounds_toArray, List.set_cons_zero, List.set_cons_succ]
        first
          | (refine wpAnyH_take (i := 8) (v := ?_) rfl (by kernel_rfl) (by kernel_rfl) (by kernel_rfl) (fun _ _ _ h => h) (Or.inl ⟨by rfl, ?_⟩) hHeld ?_; rotate_left; (intro wq hSw; (try dsimp only at hSw); go_simp; done))
          | (refine wpAnyH_take (i := 8) (v := ?_) rfl (by kernel_rfl) (by kernel_rfl) (by kernel_rfl) (fun _ _ _ h => h) (Or.inl ⟨by rfl, ?_⟩) hHeld ?_; rotate_left; (intro wq hSw; (try dsimp only at hSw); go_simp; with_reducible rfl))
          | refine wpAnyH_take (i := 8) (v := undef) rfl (by kernel_rfl) (by kernel_rfl) (by kernel_rfl) (fun _ _ _ h => h) (Or.inr ⟨by rfl, rfl⟩) hHeld ?_
        try simp only [Act.put, List.getElem_toArray, List.getElem_cons_succ, List.getElem_cons_zero, List.setIfInBounds_toArray, List.set_cons_zero, List.set_cons_succ]
        first
          | (refine wpAnyH_take (i := 9) (v := ?_) rfl (by kernel_rfl) (by kernel_rfl) (by kernel_rfl) (fun _ _ _ h => h) (Or.inl ⟨by rfl, ?_⟩) hHeld ?_; rotate_left; (intro wq hSw; (try dsimp only at hSw); go_simp; done))
          | (refine wpAnyH_take (i := 9) (v := ?_) rfl (by kernel_rfl) (by kernel_rfl) (by kernel_rfl) (fun _ _ _ h => h) (Or.inl ⟨by rfl, ?_⟩) hHeld ?_; rotate_left; (intro wq hSw; (try dsimp only at hSw); go_simp; with_reducible rfl))
          | refine wpAnyH_take (i := 9) (v := undef) rfl (by kernel_rfl) (by kernel_rfl) (by kernel_rfl) (fun _ _ _ h => h) (Or.inr ⟨by rfl, rfl⟩) hHeld ?_
        try simp only [Act.put, List.getElem_toArray, List.getElem_cons_succ, List.getElem_cons_zero, List.setIfInBounds_toArray, List.set_cons_zero, List.set_cons_succ]
        first
          | (refine wpAnyH_take (i := 10) (v := ?_) rfl (by kernel_rfl) (by kernel_rfl) (by kernel_rfl) (fun _ _ _ h => h) (Or.inl ⟨by rfl, ?_⟩) hHeld ?_; rotate_left; (intro wq hSw; (try dsimp only at hSw); go_simp; done))
          | (refine wpAnyH_take (i := 10) (v := ?_) rfl (by kernel_rfl) (by kernel_rfl) (by kernel_rfl) (fun _ _ _ h => h) (Or.inl ⟨by rfl, ?_⟩) hHeld ?_; rotate_left; (intro wq hSw; (try dsimp only at hSw); go_simp; with_reducible rfl))
          | refine wpAnyH_take (i := 10) (v := undef) rfl (by kernel_rfl) (by kernel_rfl) (by kernel_rfl) (fun _ _ _ h => h) (Or.inr ⟨by rfl, rfl⟩) hHeld ?_
        try simp only [Act.put, List.getElem_toArray, List.getElem_cons_succ, List.getElem_cons_zero, List.setIfInBounds_toArray, List.set_cons_zero, List.set_cons_succ]
        first
          | (refine wpAnyH_take (i := 11) (v := ?_) rfl (by kernel_rfl) (by kernel_rfl) (by kernel_rfl) (fun _ _ _ h => h) (Or.inl ⟨by rfl, ?_⟩) hHeld ?_; rotate_left; (intro wq hSw; (try dsimp only at hSw); go_simp; done))
          | (refine wpAnyH_take (i := 11) (v := ?_) rfl (by kernel_rfl) (by kernel_rfl) (by kernel_rfl) (fun _ _ _ h => h) (Or.inl ⟨by rfl, ?_⟩) hHeld ?_; rotate_left; (intro wq hSw; (try dsimp only at hSw); go_simp; with_reducible rfl))
          | refine wpAnyH_take (i := 11) (v := undef) rfl (by kernel_rfl) (by kernel_rfl) (by kernel_rfl) (fun _ _ _ h => h) (Or.inr ⟨by rfl, rfl⟩) hHeld ?_
        try simp only [Act.put, List.getElem_toArray, List.getElem_cons_succ, List.getElem_cons_zero, List.setIfInBounds_toArray, List.set_cons_zero, List.set_cons_succ]
        first
          | (refine wpAnyH_take (i := 12) (v := ?_) rfl (by kernel_rfl) (by kernel_rfl) (by kernel_rfl) (fun _ _ _ h => h) (Or.inl ⟨by rfl, ?_⟩) hHeld ?_; rotate_left; (intro wq hSw; (try dsimp only at hSw); go_simp; done))
          | (refine wpAnyH_take (i := 12) (v := ?_) rfl (by kernel_rfl) (by kernel_rfl) (by kernel_rfl) (fun _ _ _ h => h) (Or.inl ⟨by rfl, ?_⟩) hHeld ?_; rotate_left; (intro wq hSw; (try dsimp only at hSw); go_simp; with_reducible rfl))
          | refine wpAnyH_take (i := 12) (v := undef) rfl (by kernel_rfl) (by kernel_rfl) (by kernel_rfl) (fun _ _ _ h => h) (Or.inr ⟨by rfl, rfl⟩) hHeld ?_
        try simp only [Act.put, List.getElem_toArray, List.getElem_cons_succ, List.getElem_cons_zero, List.setIfInBounds_toArray, List.set_cons_zero, List.set_cons_succ]
        first
          | (refine wpAnyH_take (i := 13) (v := ?_) rfl (by kernel_rfl) (by kernel_rfl) (by kernel_rfl) (fun _ _ _ h => h) (Or.inl ⟨by rfl, ?_⟩) hHeld ?_; rotate_left; (intro wq hSw; (try dsimp only at hSw); go_simp; done))
          | (refine wpAnyH_take (i := 13) (v := ?_) rfl (by kernel_rfl) (by kernel_rfl) (by kernel_rfl) (fun _ _ _ h => h) (Or.inl ⟨by rfl, ?_⟩) hHeld ?_; rotate_left; (intro wq hSw; (try dsimp only at hSw); go_simp; with_reducible rfl))
          | refine wpAnyH_take (i := 13) (v := undef) rfl (by kernel_rfl) (by kernel_rfl) (by kernel_rfl) (fun _ _ _ h => h) (Or.inr ⟨by rfl, rfl⟩) hHeld ?_
        try simp only [Act.put, List.getElem_toArray, List.getElem_cons_succ, List.getElem_cons_zero, List.setIfInBounds_toArray, List.set_cons_zero, List.set_cons_succ]
        first
          | (refine wpAnyH_take (i := 14) (v := ?_) rfl (by kernel_rfl) (by kernel_rfl) (by kernel_rfl) (fun _ _ _ h => h) (Or.inl ⟨by rfl, ?_⟩) hHeld ?_; rotate_left; (intro wq hSw; (try dsimp only at hSw); go_simp; done))
          | (refine wpAnyH_take (i := 14) (v := ?_) rfl (by kernel_rfl) (by kernel_rfl) (by kernel_rfl) (fun _ _ _ h => h) (Or.inl ⟨by rfl, ?_⟩) hHeld ?_; rotate_left; (intro wq hSw; (try dsimp only at hSw); go_simp; with_reducible rfl))
          | refine wpAnyH_take (i := 14) (v := undef) rfl (by kernel_rfl) (by kernel_rfl) (by kernel_rfl) (fun _ _ _ h => h) (Or.inr ⟨by rfl, rfl⟩) hHeld ?_
        try simp only [Act.put, List.getElem_toArray, List.getElem_cons_succ, List.getElem_cons_zero, List.setIfInBounds_toArray, List.set_cons_zero, List.set_cons_succ]
        first
          | (refine wpAnyH_take (i := 15) (v := ?_) rfl (by kernel_rfl) (by kernel_rfl) (by kernel_rfl) (fun _ _ _ h => h) (Or.inl ⟨by rfl, ?_⟩) hHeld ?_; rotate_left; (intro wq hSw; (try dsimp only at hSw); go_simp; done))
          | (refine wpAnyH_take (i := 15) (v := ?_) rfl (by kernel_rfl) (by kernel_rfl) (by kernel_rfl) (fun _ _ _ h => h) (Or.inl ⟨by rfl, ?_⟩) hHeld ?_; rotate_left; (intro wq hSw; (try dsimp only at hSw); go_simp; with_reducible rfl))
          | refine wpAnyH_take (i := 15) (v := undef) rfl (by kernel_rfl) (by kernel_rfl) (by kernel_rfl) (fun _ _ _ h => h) (Or.inr ⟨by rfl, rfl⟩) hHeld ?_
        try simp only [Act.put, List.getElem_toArray, List.getElem_cons_succ, List.getElem_cons_zero, List.setIfInBounds_toArray, List.set_cons_zero, List.set_cons_succ]
        first
          | (refine wpAnyH_take (i := 16) (v := ?_) rfl (by kernel_rfl) (by kernel_rfl) (by kernel_rfl) (fun _ _ _ h => h) (Or.inl ⟨by rfl, ?_⟩) hHeld ?_; rotate_left; (intro wq hSw; (try dsimp only at hSw); go_simp; done))
          | (refine wpAnyH_take (i := 16) (v := ?_) rfl (by kernel_rfl) (by kernel_rfl) (by kernel_rfl) (fun _ _ _ h => h) (Or.inl ⟨by rfl, ?_⟩) hHeld ?_; rotate_left; (intro wq hSw; (try dsimp only at hSw); go_simp; with_reducible rfl))
          | refine wpAnyH_take (i := 16) (v := undef) rfl (by kernel_rfl) (by kernel_rfl) (by kernel_rfl) (fun _ _ _ h => h) (Or.inr ⟨by rfl, rfl⟩) hHeld ?_
        try simp only [Act.put, List.getElem_toArray, List.getElem_cons_succ, List.getElem_cons_zero, List.setIfInBounds_toArray, List.set_cons_zero, List.set_cons_succ]
        first
          | (refine wpAnyH_take (i := 17) (v := ?_) rfl (by kernel_rfl) (by kernel_rfl) (by kernel_rfl) (fun _ _ _ h => h) (Or.inl ⟨by rfl, ?_⟩) hHeld ?_; rotate_left; (intro wq hSw; (try dsimp only at hSw); go_simp; done))
          | (refine wpAnyH_take (i := 17) (v := ?_) rfl (by kernel_rfl) (by kernel_rfl) (by kernel_rfl) (fun _ _ _ h => h) (Or.inl ⟨by rfl, ?_⟩) hHeld ?_; rotate_left; (intro wq hSw; (try dsimp only at hSw); go_simp; with_reducible rfl))
          | refine wpAnyH_take (i := 17) (v := undef) rfl (by kernel_rfl) (by kernel_rfl) (by kernel_rfl) (fun _ _ _ h => h) (Or.inr ⟨by rfl, rfl⟩) hHeld ?_
        try simp only [Act.put, List.getElem_toArray, List.getElem_cons_succ, List.getElem_cons_zero, List.setIfInBounds_toArray, List.set_cons_zero, List.set_cons_succ]
        first
          | (refine wpAnyH_take (i := 18) (v := ?_) rfl (by kernel_rfl) (by kernel_rfl) (by kernel_rfl) (fun _ _ _ h => h) (Or.inl ⟨by rfl, ?_⟩) hHeld ?_; rotate_left; (intro wq hSw; (try dsimp only at hSw); go_simp; done))
          | (refine wpAnyH_take (i := 18) (v := ?_) rfl (by kernel_rfl) (by kernel_rfl) (by kernel_rfl) (fun _ _ _ h => h) (Or.inl ⟨by rfl, ?_⟩) hHeld ?_; rotate_left; (intro wq hSw; (try dsimp only at hSw); go_simp; with_reducible rfl))
          | refine wpAnyH_take (i := 18) (v := undef) rfl (by kernel_rfl) (by kernel_rfl) (by kernel_rfl) (fun _ _ _ h => h) (Or.inr ⟨by rfl, rfl⟩) hHeld ?_
        try simp only [Act.put, List.getElem_toArray, List.getElem_cons_succ, List.getElem_cons_zero, List.setIfInBounds_toArray, List.set_cons_zero, List.set_cons_succ]
        first
          | (refine wpAnyH_take (i := 19) (v := ?_) rfl (by kernel_rfl) (by kernel_rfl) (by kernel_rfl) (fun _ _ _ h => h) (Or.inl ⟨by rfl, ?_⟩) hHeld ?_; rotate_left; (intro wq hSw; (try dsimp only at hSw); obtain ⟨v0, v1, v2, v3, v4, v5, v6, v7, v8⟩ := cf_cells ((hSw.block _ lC).trans hst.c); go_simp; done))
          | (refine wpAnyH_take (i := 19) (v := ?_) rfl (by kernel_rfl) (by kernel_rfl) (by kernel_rfl) (fun _ _ _ h => h) (Or.inl ⟨by rfl, ?_⟩) hHeld ?_; rotate_left; (intro wq hSw; (try dsimp only at hSw); obtain ⟨v0, v1, v2, v3, v4, v5, v6, v7, v8⟩ := cf_cells ((hSw.block _ lC).trans hst.c); go_simp; with_reducible rfl))
          | refine wpAnyH_take (i := 19) (v := undef) rfl (by kernel_rfl) (by kernel_rfl) (by kernel_rfl) (fun _ _ _ h => h) (Or.inr ⟨by rfl, rfl⟩) hHeld ?_
        try simp only [Act.put, List.getElem_toArray, List.getElem_cons_succ, List.getElem_cons_zero, List.setIfInBounds_toArray, List.set_cons_zero, List.set_cons_succ]
        first
          | (refine wpAnyH_take (i := 20) (v := ?_) rfl (by kernel_rfl) (by kernel_rfl) (by kernel_rfl) (fun _ _ _ h => h) (Or.inl ⟨by rfl, ?_⟩) hHeld ?_; rotate_left; (intro wq hSw; (try dsimp only at hSw); go_simp; done))
          | (refine wpAnyH_take (i := 20) (v := ?_) rfl (by kernel_rfl) (by kernel_rfl) (by kernel_rfl) (fun _ _ _ h => h) (Or.inl ⟨by rfl, ?_⟩) hHeld ?_; rotate_left; (intro wq hSw; (try dsimp only at hSw); go_simp; with_reducible rfl))
          | refine wpAnyH_take (i := 20) (v := undef) rfl (by kernel_rfl) (by kernel_rfl) (by kernel_rfl) (fun _ _ _ h => h) (Or.inr ⟨by rfl, rfl⟩) hHeld ?_
        try simp only [Act.put, List.getElem_toArray, List.getElem_cons_succ, List.getElem_cons_zero, List.setIfInBounds_toArray, List.set_cons_zero, List.set_cons_succ]
        first
          | (refine wpAnyH_take (i := 21) (v := ?_) rfl (by kernel_rfl) (by kernel_rfl) (by kernel_rfl) (fun _ _ _ h => h) (Or.inl ⟨by rfl, ?_⟩) hHeld ?_; rotate_left; (intro wq hSw; (try dsimp only at hSw); go_simp; done))
          | (refine wpAnyH_take (i := 21) (v := ?_) rfl (by kernel_rfl) (by kernel_rfl) (by kernel_rfl) (fun _ _ _ h => h) (Or.inl ⟨by rfl, ?_⟩) hHeld ?_; rotate_left; (intro wq hSw; (try dsimp only at hSw); go_simp; with_reducible rfl))
          | refine wpAnyH_take (i := 21) (v := undef) rfl (by kernel_rfl) (by kernel_rfl) (by kernel_rfl) (fun _ _ _ h => h) (Or.inr ⟨by rfl, rfl⟩) hHeld ?_
        try simp only [Act.put, List.getElem_toArray, List.getElem_cons_succ, List.getElem_cons_zero, List.setIfInBounds_toArray, List.set_cons_zero, List.set_cons_succ]
        first
          | (refine wpAnyH_take (i := 22) (v := ?_) rfl (by kernel_rfl) (by kernel_rfl) (by kernel_rfl) (fun _ _ _ h => h) (Or.inl ⟨by rfl, ?_⟩) hHeld ?_; rotate_left; (intro wq hSw; (try dsimp only at hSw); go_simp; done))
          | (refine wpAnyH_take (i := 22) (v := ?_) rfl (by kernel_rfl) (by kernel_rfl) (by kernel_rfl) (fun _ _ _ h => h) (Or.inl ⟨by rfl, ?_⟩) hHeld ?_; rotate_left; (intro wq hSw; (try dsimp only at hSw); go_simp; with_reducible rfl))
          | refine wpAnyH_take (i := 22) (v := undef) rfl (by kernel_rfl) (by kernel_rfl) (by kernel_rfl) (fun _ _ _ h => h) (Or.inr ⟨by rfl, rfl⟩) hHeld ?_
        try simp only [Act.put, List.getElem_toArray, List.getElem_cons_succ, List.getElem_cons_zero, List.setIfInBounds_toArray, List.set_cons_zero, List.set_cons_succ]
        first
          | (refine wpAnyH_take (i := 23) (v := ?_) rfl (by kernel_rfl) (by kernel_rfl) (by kernel_rfl) (fun _ _ _ h => h) (Or.inl ⟨by rfl, ?_⟩) hHeld ?_; rotate_left; (intro wq hSw; (try dsimp only at hSw); go_simp; done))
          | (refine wpAnyH_take (i := 23) (v := ?_) rfl (by kernel_rfl) (by kernel_rfl) (by kernel_rfl) (fun _ _ _ h => h) (Or.inl ⟨by rfl, ?_⟩) hHeld ?_; rotate_left; (intro wq hSw; (try dsimp only at hSw); go_simp; with_reducible rfl))
          | refine wpAnyH_take (i := 23) (v := undef) rfl (by kernel_rfl) (by kernel_rfl) (by kernel_rfl) (fun _ _ _ h => h) (Or.inr ⟨by rfl, rfl⟩) hHeld ?_
        try simp only [Act.put, List.getElem_toArray, List.getElem_cons_succ, List.getElem_cons_zero, List.setIfInBounds_toArray, List.set_cons_zero, List.set_cons_succ]
        first
          | (refine wpAnyH_take (i := 25) (v := ?_) rfl (by kernel_rfl) (by kernel_rfl) (by kernel_rfl) (fun _ _ _ h => h) (Or.inl ⟨by rfl, ?_⟩) hHeld ?_; rotate_left; (intro wq hSw; (try dsimp only at hSw); obtain ⟨v0, v1, v2, v3, v4, v5, v6, v7, v8⟩ := cf_cells ((hSw.block _ lC).trans hst.c); go_simp; done))
          | (refine wpAnyH_take (i := 25) (v := ?_) rfl (by kernel_rfl) (by kernel_rfl) (by kernel_rfl) (fun _ _ _ h => h) (Or.inl ⟨by rfl, ?_⟩) hHeld ?_; rotate_left; (intro wq hSw; (try dsimp only at hSw); obtain ⟨v0, v1, v2, v3, v4, v5, v6, v7, v8⟩ := cf_cells ((hSw.block _ lC).trans hst.c); go_simp; with_reducible rfl))
          | refine wpAnyH_take (i := 25) (v := undef) rfl (by kernel_rfl) (by kernel_rfl) (by kernel_rfl) (fun _ _ _ h => h) (Or.inr ⟨by rfl, rfl⟩) hHeld ?_
        try simp only [Act.put, List.getElem_toArray, List.getElem_cons_succ, List.getElem_cons_zero, List.setIfInBounds_toArray, List.set_cons_zero, List.set_cons_succ]
        first
          | (refine wpAnyH_take (i := 26) (v := ?_) rfl (by kernel_rfl) (by kernel_rfl) (by kernel_rfl) (fun _ _ _ h => h) (Or.inl ⟨by rfl, ?_⟩) hHeld ?_; rotate_left; (intro wq hSw; (try dsimp only at hSw); go_simp; done))
          | (refine wpAnyH_take (i := 26) (v := ?_) rfl (by kernel_rfl) (by kernel_rfl) (by kernel_rfl) (fun _ _ _ h => h) (Or.inl ⟨by rfl, ?_⟩) hHeld ?_; rotate_left; (intro wq hSw; (try dsimp only at hSw); go_simp; with_reducible rfl))
          | refine wpAnyH_take (i := 26) (v := undef) rfl (by kernel_rfl) (by kernel_rfl) (by kernel_rfl) (fun _ _ _ h => h) (Or.inr ⟨by rfl, rfl⟩) hHeld ?_
        try simp only [Act.put, List.getElem_toArray, List.getElem_cons_succ, List.getElem_cons_zero, List.setIfInBounds_toArray, List.set_cons_zero, List.set_cons_succ]
        first
          | (refine wpAnyH_take (i := 27) (v := ?_) rfl (by kernel_rfl) (by kernel_rfl) (by kernel_rfl) (fun _ _ _ h => h) (Or.inl ⟨by rfl, ?_⟩) hHeld ?_; rotate_left; (intro wq hSw; (try dsimp only at hSw); go_simp; done))
          | (refine wpAnyH_take (i := 27) (v := ?_) rfl (by kernel_rfl) (by kernel_rfl) (by kernel_rfl) (fun _ _ _ h => h) (Or.inl ⟨by rfl, ?_⟩) hHeld ?_; rotate_left; (intro wq hSw; (try dsimp only at hSw); go_simp; with_reducible rfl))
          | refine wpAnyH_take (i := 27) (v := undef) rfl (by kernel_rfl) (by kernel_rfl) (by kernel_rfl) (fun _ _ _ h => h) (Or.inr ⟨by rfl, rfl⟩) hHeld ?_
        try simp only [Act.put, List.getElem_toArray, List.getElem_cons_succ, List.getElem_cons_zero, List.setIfInBounds_toArray, List.set_cons_zero, List.set_cons_succ]
        first
          | (refine wpAnyH_take (i := 28) (v := ?_) rfl (by kernel_rfl) (by kernel_rfl) (by kernel_rfl) (fun _ _ _ h => h) (Or.inl ⟨by rfl, ?_⟩) hHeld ?_; rotate_left; (intro wq hSw; (try dsimp only at hSw); go_simp; done))
          | (refine wpAnyH_take (i := 28) (v := ?_) rfl (by kernel_rfl) (by kernel_rfl) (by kernel_rfl) (fun _ _ _ h => h) (Or.inl ⟨by rfl, ?_⟩) hHeld ?_; rotate_left; (intro wq hSw; (try dsimp only at hSw); go_simp; with_reducible rfl))
          | refine wpAnyH_take (i := 28) (v := undef) rfl (by kernel_rfl) (by kernel_rfl) (by kernel_rfl) (fun _ _ _ h => h) (Or.inr ⟨by rfl, rfl⟩) hHeld ?_
        try simp only [Act.put, List.getElem_toArray, List.getElem_cons_succ, List.getElem_cons_zero, List.setIfInBounds_toArray, List.set_cons_zero, List.set_cons_succ]
        first
          | (refine wpAnyH_take (i := 29) (v := ?_) rfl (by kernel_rfl) (by kernel_rfl) (by kernel_rfl) (fun _ _ _ h => h) (Or.inl ⟨by rfl, ?_⟩) hHeld ?_; rotate_left; (intro wq hSw; (try dsimp only at hSw); go_simp; done))
          | (refine wpAnyH_take (i := 29) (v := ?_) rfl (by kernel_rfl) (by kernel_rfl) (by kernel_rfl) (fun _ _ _ h => h) (Or.inl ⟨by rfl, ?_⟩) hHeld ?_; rotate_left; (intro wq hSw; (try dsimp only at hSw); go_simp; with_reducible rfl))
          | refine wpAnyH_take (i := 29) (v := undef) rfl (by kernel_rfl) (by kernel_rfl) (by kernel_rfl) (fun _ _ _ h => h) (Or.inr ⟨by rfl, rfl⟩) hHeld ?_
        try simp only [Act.put, List.getElem_toArray, List.getElem_cons_succ, List.getElem_cons_zero, List.setIfInBounds_toArray, List.set_cons_zero, List.set_cons_succ]
        refine wpAnyH_ready (rs := [24]) (by kernel_rfl) (by simp) ?_
        refine AllReadyH.cons rfl (fun K hK => ?_) AllReadyH.nil
        go_simp; go_at_call 17; refine (entry_at (cf := cf) HEn.out).mono ?_; rintro e wx ⟨rfl, hbx⟩; replace hS := hS.trans (hbx.mono hS.size); clear hbx; try go_wp2_with fail
        refine hK.out _ _ ?_ (fun hHeld => ?_)
        · (try dsimp only); first | done | (exact hS)
        clear hK K
        try simp only [Act.put, List.getElem_toArray, List.getElem_cons_succ, List.getElem_cons_zero, List.setIfInBounds_toArray, List.set_cons_zero, List.set_cons_succ]
        refine wpAnyH_ready (rs := [30]) (by kernel_rfl) (by simp) ?_
        refine AllReadyH.cons rfl (fun K hK => ?_) AllReadyH.nil
        go_simp; go_at_call 20; refine (rentry_at (cf := cf) HEn.out).mono ?_; rintro e wx ⟨rfl, hbx⟩; replace hS := hS.trans (hbx.mono hS.size); clear hbx; try go_wp2_with fail
        refine hK.out _ _ ?_ (fun hHeld => ?_)
        · (try dsimp only); first | done | (exact hS)
        clear hK K
        try simp only [Act.put, List.getElem_toArray, List.getElem_cons_succ, List.getElem_cons_zero, List.setIfInBounds_toArray, List.set_cons_zero, List.set_cons_succ]
        first
          | (refine wpAnyH_take (i := 31) (v := ?_) rfl (by kernel_rfl) (by kernel_rfl) (by kernel_rfl) (fun _ _ _ h => h) (Or.inl ⟨by rfl, ?_⟩) hHeld ?_; rotate_left; (intro wq hSw; (try dsimp only at hSw); go_simp; done))
          | (refine wpAnyH_take (i := 31) (v := ?_) rfl (by kernel_rfl) (by kernel_rfl) (by kernel_rfl) (fun _ _ _ h => h) (Or.inl ⟨by rfl, ?_⟩) hHeld ?_; rotate_left; (intro wq hSw; (try dsimp only at hSw); go_simp; with_reducible rfl))
          | refine wpAnyH_take (i := 31) (v := undef) rfl (by kernel_rfl) (by kernel_rfl) (by kernel_rfl) (fun _ _ _ h => h) (Or.inr ⟨by rfl, rfl⟩) hHeld ?_
        try simp only [Act.put, List.getElem_toArray, List.getElem_cons_succ, List.getElem_cons_zero, List.setIfInBounds_toArray, List.set_cons_zero, List.set_cons_succ]
        first
          | (refine wpAnyH_take (i := 32) (v := ?_) rfl (by kernel_rfl) (by kernel_rfl) (by kernel_rfl) (fun _ _ _ h => h) (Or.inl ⟨by rfl, ?_⟩) hHeld ?_; rotate_left; (intro wq hSw; (try dsimp only at hSw); go_simp; done))
          | (refine wpAnyH_take (i := 32) (v := ?_) rfl (by kernel_rfl) (by kernel_rfl) (by kernel_rfl) (fun _ _ _ h => h) (Or.inl ⟨by rfl, ?_⟩) hHeld ?_; rotate_left; (intro wq hSw; (try dsimp only at hSw); go_simp; with_reducible rfl))
          | refine wpAnyH_take (i := 32) (v := undef) rfl (by kernel_rfl) (by kernel_rfl) (by kernel_rfl) (fun _ _ _ h => h) (Or.inr ⟨by rfl, rfl⟩) hHeld ?_
        try simp only [Act.put, List.getElem_toArray, List.getElem_cons_succ, List.getElem_cons_zero, List.setIfInBounds_toArray, List.set_cons_zero, List.set_cons_succ]
        refine wpAnyH_done (by kernel_rfl) ?_ _
        skip
        replace hst := hst.next hS
        clear hS k3 k4 l3 l4 lC hE1 hE2
        go_wp2_with fail
        refine (put_at hst.l hst.m (by omega) (by omega) HR.out HmR.out).mono ?_
        rintro e w7 ⟨A7, c7, rfl, h7, hb7⟩
        replace hst := hst.next hb7
        clear hb7
        go_wp2_with fail
        refine (rput_at hst.l hst.m (by omega) (by omega) HR.out HmR.out).mono ?_
        rintro e w8 ⟨A8, c8, rfl, h8, hb8⟩
        replace h7 := (Recs.below h7 hb8).more hb8.size
        replace hst := hst.next hb8
        clear hb8
        go_wp2_with fail
        refine (same_at h7 h8 (by omega)).mono ?_
        rintro e w9 ⟨rfl, hb9⟩
        replace hst := hst.next hb9
        clear hb9 h7 h8
        go_wp2_with fail
        refine (fresh_at hst.l (by omega) HF.out HmF.out).mono ?_
        rintro e w10 ⟨A7, c7, rfl, h7, hb7⟩
        replace hst := hst.next hb7
        clear hb7
        go_wp2_with fail
        refine (rfresh_at hst.l (by omega) HF.out HmF.out).mono ?_
        rintro e w11 ⟨A8, c8, rfl, h8, hb8⟩
        replace h7 := (Recs.below h7 hb8).more hb8.size
        replace hst := hst.next hb8
        clear hb8
        go_wp2_with fail
        refine (same_at h7 h8 (by omega)).mono ?_
        rintro e w12 ⟨rfl, hb9⟩
        replace hst := hst.next hb9
        clear hb9 h7 h8
        obtain ⟨bm, hbm⟩ : ∃ b, mayK l = b := ⟨_, rfl⟩
        have HBM := Lib.hid hbm
        clear hbm
        go_wp2_with fail
        refine (MayKn_any _ _ _ l _ hst.l (by omega)).mono ?_
        rw [HBM.out]
        rintro e w13 ⟨rfl, hb9⟩
        replace hst := hst.next hb9
        clear hb9
        go_wp2_with fail
        refine (rMay_any _ _ _ l _ hst.l (by omega)).mono ?_
        rw [HBM.out]
        rintro e w14 ⟨rfl, hb9⟩
        replace hst := hst.next hb9
        clear hb9
        go_wp2_with fail
        refine (wakes11_any _).mono ?_
        rintro e w15 ⟨rfl, hb9⟩
        go_wp2_with fail
        go_ret
        exact ⟨rfl, hst.b.trans (hb9.mono hst.b.size)⟩
      · go_wp2_with fail
        refine (wakes11_any _).mono ?_
        rintro e w9 ⟨rfl, hb9⟩
        go_wp2_with fail
        go_ret
        exact ⟨rfl, hst.b.trans (hb9.mono hst.b.size)⟩
    · clear h60
      go_wp2_with fail
      refine (wakes11_any _).mono ?_
      rintro e w9 ⟨rfl, hb9⟩
      go_wp2_with fail
      go_ret
      exact ⟨rfl, hst.b.trans (hb9.mono hst.b.size)⟩
  · clear h60
    go_wp2_with fail
    refine (wakes11_any _).mono ?_
    rintro e w9 ⟨rfl, hb9⟩
    go_wp2_with fail
    go_ret
    exact ⟨rfl, hst.b.trans (hb9.mono hst.b.size)⟩
end Go.Proofs.Ytpdbibejocajhaa
