/-
  What the keeper's row computes. Conditions: at most 500 names, 1000 lookups in flight, of at most 90000 races each.
-/
import Derived.Test.YtfahmfaakjnpcaaNm6
namespace Go.Proofs.Ytfahmfaakjnpcaa
set_option linter.unusedVariables false
set_option linter.unusedSimpArgs false
open Go.RowKit Go.Shelf

/-- Behind telling those who asked. -/
structure RowA (w : World) (g : Nat) (h : NmH) (ck nx : Int) (m : Lt) (p : FlH) (L : List Int) (D : Option Addr) (dn dc gf : Nat) (W : World) : Prop where
  kp : Kp W g h ck nx D dn dc
  dd : OwDd W w.heap.size D dn dc (L.map (tellH m))
  lt : LtAt W w.heap.size m
  fl : W.heap[gf]? = some (.cells #[.string p.name, .int .i64 p.seeker, .slice p.A p.n p.c] 82 (0, 0))
  lf : w.heap.size ≤ gf
  gr : w.grownBy W (some g)
section
variable {w W W' : World} {g : Nat} {h : NmH} {ck nx : Int} {m : Lt} {p : FlH} {L : List Int} {D : Option Addr} {dn dc gf : Nat}
theorem RowA.next (x : RowA w g h ck nx m p L D dn dc gf W) (hb : Below W.heap.size W W') : RowA w g h ck nx m p L D dn dc gf W' :=
  ⟨x.kp.next hb, OwR.below x.dd hb, x.lt.below hb x.lt.lt, (hb.block _ (Array.getElem?_eq_some_iff.1 x.fl).1).trans x.fl, x.lf, grown_own x.gr (row := none) ⟨hb.os, hb.tape, hb.output, hb.size, fun q hq _ => hb.block q hq⟩ (by simp)⟩
theorem RowA.setF (x : RowA w g h ck nx m p L D dn dc gf W) (lg : g < w.heap.size) (A' : Option Addr) (n' c' : Nat) : RowA w g { h with fA := A', fn := n', fc := c' } ck nx m p L D dn dc gf (W.setCell ⟨g, 11, none⟩ (.slice A' n' c')) :=
  have hf := x.lf
  ⟨x.kp.setF, ⟨x.dd.1, x.dd.2.set (p := ⟨g, 11, none⟩) (x.kp.ne x.dd.2 (by decide)) _⟩, x.lt.block (Below.heap_setCell _ _ _ _ (show w.heap.size ≠ g by omega)), (Below.heap_setCell _ _ _ _ (show gf ≠ g by omega)).trans x.fl, x.lf, grown_set x.gr _ rfl rfl _⟩
theorem RowA.setK (x : RowA w g h ck nx m p L D dn dc gf W) (lg : g < w.heap.size) (A' : Option Addr) (n' c' : Nat) : RowA w g { h with kA := A', kn := n', kc := c' } ck nx m p L D dn dc gf (W.setCell ⟨g, 10, none⟩ (.slice A' n' c')) :=
  have hf := x.lf
  ⟨x.kp.setK, ⟨x.dd.1, x.dd.2.set (p := ⟨g, 10, none⟩) (x.kp.ne x.dd.2 (by decide)) _⟩, x.lt.block (Below.heap_setCell _ _ _ _ (show w.heap.size ≠ g by omega)), (Below.heap_setCell _ _ _ _ (show gf ≠ g by omega)).trans x.fl, x.lf, grown_set x.gr _ rfl rfl _⟩
end
/-- What the last statement of row reads, but the names. -/
def RowS (L g gf : Nat) (cf : Cf) (ck : Int) (m : Lt) (p : FlH) (W : World) : Prop :=
  LtAt W L m ∧ W.heap[gf]? = some (.cells #[.string p.name, .int .i64 p.seeker, .slice p.A p.n p.c] 82 (0, 0)) ∧ ∃ h nx D dn dc, h.cf = cf ∧ Kp W g h ck nx D dn dc
theorem RowA.s {w W : World} {g : Nat} {h : NmH} {ck nx : Int} {m : Lt} {p : FlH} {L : List Int} {D : Option Addr} {dn dc gf : Nat} (x : RowA w g h ck nx m p L D dn dc gf W) : RowS w.heap.size g gf h.cf ck m p W := ⟨x.lt, x.fl, _, _, _, _, _, rfl, x.kp⟩
theorem RowS.conf {W : World} {L g gf : Nat} {cf : Cf} {ck : Int} {m : Lt} {p : FlH} (x : RowS L g gf cf ck m p W) : W.cell? ⟨g, 1, none⟩ = some (.int .i64 cf.1) ∧ W.cell? ⟨g, 2, none⟩ = some (.int .i64 cf.2.1) ∧ W.cell? ⟨g, 3, none⟩ = some (.int .i64 cf.2.2.1) ∧ W.cell? ⟨g, 4, none⟩ = some (.int .i64 cf.2.2.2.1) ∧ W.cell? ⟨g, 5, none⟩ = some (.int .i64 cf.2.2.2.2.1) ∧ W.cell? ⟨g, 6, none⟩ = some (.int .i64 cf.2.2.2.2.2.1) ∧ W.cell? ⟨g, 7, none⟩ = some (.int .i64 cf.2.2.2.2.2.2.1) ∧ W.cell? ⟨g, 8, none⟩ = some (.int .i64 cf.2.2.2.2.2.2.2.1) ∧ W.cell? ⟨g, 9, none⟩ = some (.int .i64 cf.2.2.2.2.2.2.2.2) := by
  obtain ⟨_, _, h, nx, D, dn, dc, rfl, hk⟩ := x
  exact hk.conf
theorem RowS.clock {W : World} {L g gf : Nat} {cf : Cf} {ck : Int} {m : Lt} {p : FlH} (x : RowS L g gf cf ck m p W) : W.cell? ⟨g, 13, none⟩ = some (.int .i64 ck) := by
  obtain ⟨_, _, h, nx, D, dn, dc, rfl, hk⟩ := x
  exact hk.cells.2.2.2.2.1
theorem fl_cells {w : World} {g : Nat} {x : FlH} {t : TypeId} (h : w.heap[g]? = some (.cells #[.string x.name, .int .i64 x.seeker, .slice x.A x.n x.c] t (0, 0))) :
    w.cell? ⟨g, 0, none⟩ = some (.string x.name) ∧ w.cell? ⟨g, 1, none⟩ = some (.int .i64 x.seeker) ∧ w.cell? ⟨g, 2, none⟩ = some (.slice x.A x.n x.c) :=
  ⟨by simp [World.cell?, h], by simp [World.cell?, h], by simp [World.cell?, h]⟩
theorem map_eraseIdx' {α β : Type} (f : α → β) : ∀ (l : List α) (i : Nat), (l.eraseIdx i).map f = (l.map f).eraseIdx i
  | [], i => by simp
  | x :: l, 0 => by simp
  | x :: l, i + 1 => by simp [map_eraseIdx' f l i]
theorem StepK.rows {F : Nat → Prop} {B0 g i gf : Nat} {ck nx : Int} {h : NmH} {m : Lt} {l R : List Kn} {fs : List Fx} {p : Fx} {w w' : World} {fn' c5 kn' c6 dc : Nat} {A5 A6 D : Option Addr} {e : Ending} (he : e = .returned (.tuple #[])) (hF : Stb F w (fun w'' => NmIs w'' w''.heap.size h l fs)) (hFB : ∀ b, F b → b < B0) (hB : B0 ≤ g) (hg : g < w.heap.size)
    (hA : RowA w g { h with fA := A5, fn := fn', fc := c5, kA := A6, kn := kn', kc := c6 } ck nx m p.1 p.2 D p.1.n dc gf w')
    (hO : OwFl w' w.heap.size A5 fn' c5 ((fs.map (·.1)).eraseIdx i)) (hK : OwKn w' w.heap.size A6 kn' c6 R)
    {Q : Nm × List Dn} (hQ : Q = ({ absN h l fs with fl := (absN h l fs).fl.eraseIdx i, kn := R }, p.2.map (tellN m.t m.e))) : StepK F g ck nx Q w e w' := by
  refine ⟨_, R, fs.eraseIdx i, D, p.1.n, dc, (p.2.map (tellH m)).map fun x => (x, none), he, hA.kp, ?_, ?_, ?_, hA.gr⟩
  · intro w'' hs hb
    have hN : NmIs w'' w''.heap.size h l fs := hF.grown hA.gr (fun b hb0 => by have := hFB b hb0; omega) hs fun b hb1 hb2 => hb b hb1 (.inl hb2)
    have hnew : ∀ b, b < w'.heap.size → w.heap.size ≤ b → w''.heap[b]? = w'.heap[b]? := fun b h1 h2 => hb b h1 (.inr h2)
    refine ⟨⟨(show OwKn w'' w.heap.size A6 kn' c6 _ from ⟨hK.1, hK.2.off (Nat.le_refl _) hnew⟩).recs, ⟨?_, fun q hq => ?_⟩, hK.2.2.1, hO.2.2.1⟩, ?_⟩
    · rw [map_eraseIdx']
      exact (show OwFl w'' w.heap.size A5 fn' c5 _ from ⟨hO.1, hO.2.off (Nat.le_refl _) hnew⟩).recs
    · exact hN.f.2 q (List.eraseIdx_subset hq)
    · exact hA.dd.stb (N := w.heap.size) (Nat.le_refl _) (by
        intro x hx
        obtain ⟨r, _, rfl⟩ := List.mem_map.1 hx
        rfl) hs hnew
  · rw [hQ]
    unfold absN absF
    simp only [Nm.mk.injEq, true_and, and_true]
    exact map_eraseIdx' _ _ _
  · rw [hQ, ← absD_tells, List.map_map]
    rfl
theorem StepK.none_ {F : Nat → Prop} {B0 g : Nat} {ck nx : Int} {h : NmH} {l : List Kn} {fs : List Fx} {w w' : World} {e : Ending} (he : e = .returned (.tuple #[])) (hF : Stb F w (fun w'' => NmIs w'' w''.heap.size h l fs)) (hFB : ∀ b, F b → b < B0) (hB : B0 ≤ g) (hg : g < w.heap.size) (hK : Kp w' g h ck nx none 0 0) (hG : w.grownBy w' (some g)) : StepK F g ck nx (absN h l fs, []) w e w' := by
  refine ⟨h, l, fs, none, 0, 0, [], he, hK, ?_, rfl, rfl, hG⟩
  intro w'' hs hb
  exact ⟨hF.grown hG (fun b hb0 => by have := hFB b hb0; omega) hs fun b hb1 hb2 => hb b hb1 (.inl hb2), Recs.nil_ _ _ _, by simp⟩
theorem putK_one (l : List Kn) (x : Kn) : putK l [x] = oneK l x := rfl
set_option maxRecDepth 100000 in
set_option maxHeartbeats 2000000 in
theorem row_none (B0 g : Nat) (h : NmH) (ck nx : Int) (m : Lt) (l : List Kn) (fs : List Fx) (w : World) (hk : Kp w g h ck nx none 0 0) (hN : NmIs w B0 h l fs) (F : Nat → Prop) (hF : Stb F w (fun w'' => NmIs w'' w''.heap.size h l fs)) (hFB : ∀ b, F b → b < B0) (hB : B0 ≤ g) (hfn : h.fn ≤ 1000) (hP : placeS (absF fs) m.f = none) :
    Calls Try.prog 28 #[.pointer (some ⟨g, 0, none⟩), .agg #[.int .i8 m.k, .int .i64 m.f, .int .i64 m.n, .int .i64 m.s, .string m.t, .int .i64 m.e]] w fun e w' => StepK F g ck nx (rowN (absN h l fs) m.f m.t m.e ck) w e w' := by
  have HR := Lib.hid (rowN_none (n := absN h l fs) (text := m.t) (e := m.e) (ck := ck) hP)
  have hP2 := hP
  rw [absF_findS] at hP2
  have HI := Lib.hid (idx_none hP2)
  clear hP hP2
  have lg := hk.lt
  have hWA := Below.new_ w (.cells #[.int .i8 m.k, .int .i64 m.f, .int .i64 m.n, .int .i64 m.s, .string m.t, .int .i64 m.e] 40)
  have hk3 := hk.next hWA
  have hm3 := LtAt.new w m
  have hF3 := hN.f.1.below (hWA.mono (by omega))
  go_enter Try.func28, Try.ntmps28
  go_upto_region 1 with fail
  generalize (w.alloc (.cells #[.int .i8 m.k, .int .i64 m.f, .int .i64 m.n, .int .i64 m.s, .string m.t, .int .i64 m.e] 40)) = W at hWA hk3 hm3 hF3 ⊢
  go_wp2_with fail
  refine (find_at 48 eg_rowC #[.pointer (some ⟨w.heap.size, 0, none⟩)] (fun x => x.seeker == m.f) g B0 h ck nx none 0 0 (fs.map (·.1)) _ hk3 hF3 (by have := hWA.size; omega) (by omega) (fun x wx _ hbx => rowC_any x _ m wx (hm3.below hbx hm3.lt)) HI.out).mono ?_
  rintro e w4 ⟨rfl, hb4⟩
  replace hk3 := hk3.next hb4
  replace hWA := hWA.trans (hb4.mono hWA.size)
  go_wp2_with fail
  go_end0
  rw [HR.out]
  exact StepK.none_ rfl hF hFB hB lg hk3 (grown_below hWA)
set_option maxRecDepth 100000 in
set_option maxHeartbeats 6000000 in
theorem row_some (B0 g : Nat) (h : NmH) (ck nx : Int) (m : Lt) (l : List Kn) (fs : List Fx) (i : Nat) (w : World) (hk : Kp w g h ck nx none 0 0) (hN : NmIs w B0 h l fs) (F : Nat → Prop) (hF : Stb F w (fun w'' => NmIs w'' w''.heap.size h l fs)) (hFB : ∀ b, F b → b < B0) (hB : B0 ≤ g) (hn : h.kn ≤ 500) (hfn : h.fn ≤ 1000) (hP : placeS (absF fs) m.f = some i) (hpn : ∀ p ∈ fs, p.1.n ≤ 90000) :
    Calls Try.prog 28 #[.pointer (some ⟨g, 0, none⟩), .agg #[.int .i8 m.k, .int .i64 m.f, .int .i64 m.n, .int .i64 m.s, .string m.t, .int .i64 m.e]] w fun e w' => StepK F g ck nx (rowN (absN h l fs) m.f m.t m.e ck) w e w' := by
  have hP2 := hP
  rw [absF_findS] at hP2
  obtain ⟨hi1, hi2⟩ := idx_some hP2
  rw [hN.f.1.1] at hi2
  obtain ⟨p, hp⟩ : ∃ p, fs[i]? = some p := ⟨_, List.getElem?_eq_getElem (by rw [hN.f.len]; exact hi2)⟩
  have hpx : (fs.map (·.1))[i]? = some p.1 := by rw [List.getElem?_map, hp]; rfl
  have hpf : (absN h l fs).fl[i]? = some (p.1.name, p.1.seeker, p.2) := by show (absF fs)[i]? = _; unfold absF; rw [List.getElem?_map, hp]; rfl
  have HR := Lib.hid (rowN_some (n := absN h l fs) (text := m.t) (e := m.e) (ck := ck) hP hpf)
  have hpm := hN.f.2 p (List.mem_of_getElem? hp)
  have hpn2 := hpn p (List.mem_of_getElem? hp)
  have HI := Lib.hid hi1
  have HPX := Lib.hid hpx
  clear hP hP2 hi1 hpf hp hpx hpn
  have lg := hk.lt
  have hWA := Below.new_ w (.cells #[.int .i8 m.k, .int .i64 m.f, .int .i64 m.n, .int .i64 m.s, .string m.t, .int .i64 m.e] 40)
  have hk3 := hk.next hWA
  have hm3 := LtAt.new w m
  have hF3 := hN.f.1.below (hWA.mono (by omega))
  go_enter Try.func28, Try.ntmps28
  go_upto_region 1 with fail
  generalize (w.alloc (.cells #[.int .i8 m.k, .int .i64 m.f, .int .i64 m.n, .int .i64 m.s, .string m.t, .int .i64 m.e] 40)) = W at hWA hk3 hm3 hF3 ⊢
  go_wp2_with fail
  refine (find_at 48 eg_rowC #[.pointer (some ⟨w.heap.size, 0, none⟩)] (fun x => x.seeker == m.f) g B0 h ck nx none 0 0 (fs.map (·.1)) _ hk3 hF3 (by have := hWA.size; omega) (by omega) (fun x wx _ hbx => rowC_any x _ m wx (hm3.below hbx hm3.lt)) HI.out).mono ?_
  rintro e w4 ⟨rfl, hb4⟩
  replace hF3 := hF3.below' hb4 (by have := hWA.size; omega)
  replace hk3 := hk3.next hb4
  replace hm3 := hm3.below hb4 hm3.lt
  replace hWA := hWA.trans (hb4.mono hWA.size)
  clear hb4
  obtain ⟨b, off, x, hA, hbb, hx, c0, c1, c2⟩ := Fls.cells hF3 hi2
  obtain rfl : x = p.1 := by have h1 := hx.out; rw [HPX.out] at h1; injection h1 with h1; exact h1.symm
  obtain ⟨z0, z10, z11, z12, z13, z14, z15⟩ := hk3.cells
  rw [hA] at z11
  have i0 : (0 : Int) ≤ (i : Int) := by omega
  have i1 : (i : Int) < (h.fn : Int) := by omega
  clear z0 z10 z12 z13 z14 z15 hx
  have hWB := hWA.alloc hWA.size (.cells #[.string p.1.name, .int .i64 p.1.seeker, .slice p.1.A p.1.n p.1.c] 82)
  have hb5 := Below.new_ w4 (.cells #[.string p.1.name, .int .i64 p.1.seeker, .slice p.1.A p.1.n p.1.c] 82)
  have hf5 : (w4.alloc (.cells #[.string p.1.name, .int .i64 p.1.seeker, .slice p.1.A p.1.n p.1.c] 82)).heap[w4.heap.size]? = _ := heap_alloc_new w4 _
  replace hk3 := hk3.next hb5
  replace hm3 := hm3.below hb5 hm3.lt
  have hF5 := hF3.below' hb5 (by have := hWA.size; omega)
  have hl4 := hWA.size
  go_upto_region 4 with fail
  clear c0 c1 c2 z11 hb5 hF3 hA
  generalize (w4.alloc (.cells #[.string p.1.name, .int .i64 p.1.seeker, .slice p.1.A p.1.n p.1.c] 82)) = W5 at hWB hk3 hm3 hf5 hF5 ⊢
  obtain ⟨m0, m1, m2, m3, m4, m5⟩ := hm3.cells
  obtain ⟨y0, y1, y2⟩ := fl_cells hf5
  have hI5 := hpm.1.below (hWB.mono (by omega))
  go_wp2_with fail
  have hlf : w4.heap.size < W5.heap.size := (Array.getElem?_eq_some_iff.1 hf5).1
  refine (tells_any g B0 h ck nx m p.1.A p.1.n p.1.c p.2 _ hk3 hI5 (by have := hWB.size; omega) (by intro h0 b2 off2 e2; obtain ⟨b3, off3, e3, hb3, _⟩ := hpm.1.2 h0 (by omega); rw [e2] at e3; injection e3 with e3; injection e3 with e3; omega) (by omega)).mono ?_
  rintro e w6 ⟨D, dc, rfl, hK6, hO6, hG6⟩
  have hRA : RowA w g h ck nx m p.1 p.2 D p.1.n dc w4.heap.size w6 :=
    ⟨hK6, ⟨hO6.1, hO6.2.rebase (by have := hWB.size; omega)⟩, hm3.grown hG6 (by omega), (hG6.block _ hlf (fun e => by injection e with e; omega)).trans hf5, hl4, grown_trans (grown_below hWB) hG6⟩
  have hF6 := hN.f.1.below (below_grown hRA.gr hB lg)
  clear m0 m1 m2 m3 m4 m5 y0 y1 y2 hI5 hK6 hO6 hG6 hk3 hm3 hf5 hF5 hlf
  obtain ⟨z0, z10, z11, z12, z13, z14, z15⟩ := hRA.kp.cells
  clear z0 z10 z12 z13 z14 z15
  have hw6 := hRA.gr.size
  go_wp2_with fail
  refine (CloneFl_any _ _ _ B0 _ _ hF6 (by omega)).mono ?_
  rintro e w7 ⟨A7, c7, rfl, ho7, hb7⟩
  obtain ⟨gr, rfl, hcp⟩ := ho7.some_ (by omega)
  clear hF6 z11
  go_wp2_with fail
  refine (DelFl_any w6.heap.size gr h.fn c7 i (fs.map (·.1)) _ ho7 hi2 (by omega)).mono ?_
  rintro e w8 ⟨rfl, ho8, hg8⟩
  have hrow := (ho7.2.row gr (by simp [rowOf]; omega)).1
  have hb8 : Below w6.heap.size w6 w8 := hb7.grown hg8 hb7.size (fun q hq => by injection hq with hq; omega)
  replace hRA := hRA.next hb8
  have ho9 : OwFl w8 w.heap.size (some ⟨gr, 0, none⟩) (h.fn - 1) c7 ((fs.map (·.1)).eraseIdx i) := ⟨ho8.1, ho8.2.rebase hw6⟩
  obtain ⟨f10, f11, f12, f15⟩ := hRA.kp.free
  obtain ⟨z0, z10, z11, z12, z13, z14, z15⟩ := hRA.kp.cells
  clear z0 z10 z12 z13 z14 z15 f10 f12 f15 ho7 ho8 hb7 hg8 hb8
  have hRB := hRA.setF lg (some ⟨gr, 0, none⟩) (h.fn - 1) c7
  have hoB : OwFl (w8.setCell ⟨g, 11, none⟩ (.slice (some ⟨gr, 0, none⟩) (h.fn - 1) c7)) w.heap.size (some ⟨gr, 0, none⟩) (h.fn - 1) c7 _ := ⟨ho9.1, ho9.2.set (p := ⟨g, 11, none⟩) (hRA.kp.ne ho9.2 (by decide)) _⟩
  go_upto_region 6 with fail
  clear hRA ho9 z11 f11
  generalize (w8.setCell ⟨g, 11, none⟩ (.slice (some ⟨gr, 0, none⟩) (h.fn - 1) c7)) = W9 at hRB hoB ⊢
  obtain ⟨F, hF⟩ : ∃ F, freshK l ck = F := ⟨_, rfl⟩
  obtain ⟨E, hE⟩ : ∃ E, entryK h.cf.2.2.2.2.2.2.1 h.cf.2.2.2.2.2.2.2.1 p.1.name m.t m.e ck = E := ⟨_, rfl⟩
  obtain ⟨R, hR⟩ : ∃ R, putK F [E] = R := ⟨_, rfl⟩
  have hnF : F.length ≤ 500 := by
    have := freshK_le l ck
    rw [hF, hN.k.1] at this
    omega
  have hlearn : learnN (absN h l fs) p.1.name m.t m.e ck = R := by
    show oneK (freshK l ck) (entryK h.cf.2.2.2.2.2.2.1 h.cf.2.2.2.2.2.2.2.1 p.1.name m.t m.e ck) = R
    rw [hF, hE, ← hR, putK_one]
  rw [hlearn] at HR
  have HF := Lib.hid hF
  have HE := Lib.hid hE
  have HPK := Lib.hid hR
  clear hF hE hR hlearn
  have hl9 := (hN.k.below (below_grown hRB.gr hB lg)).more (B' := W9.heap.size) (by have := hRB.gr.size; omega)
  have hS : RowS w.heap.size g w4.heap.size h.cf ck m p.1 W9.drew := hRB.s
  obtain ⟨z0, z10, z11, z12, z13, z14, z15⟩ := hRB.kp.cells
  clear z0 z11 z12 z13 z14 z15
  have hwl : w.heap.size ≤ W9.heap.size := hRB.gr.size
  have hbx : Below W9.heap.size W9 W9.drew := (Below.refl _ _).drew
  refine wp_region_held_drew (S := (fun wx => RowS w.heap.size g w4.heap.size h.cf ck m p.1 wx)) (by kernel_rfl) ?_ (fun hHeld => ?_)
  · (try dsimp only); first | done | ((first | exact hS | skip))
  first
    | (refine wpAnyH_take (i := 0) (v := ?_) rfl (by kernel_rfl) (by kernel_rfl) (by kernel_rfl) (fun _ _ _ h => h) (Or.inl ⟨by rfl, ?_⟩) hHeld ?_; rotate_left; (intro wq hSw; (try dsimp only at hSw); go_simp; done))
    | (refine wpAnyH_take (i := 0) (v := ?_) rfl (by kernel_rfl) (by kernel_rfl) (by kernel_rfl) (fun _ _ _ h => h) (Or.inl ⟨by rfl, ?_⟩) hHeld ?_; rotate_left; (intro wq hSw; (try dsimp only at hSw); go_simp; with_reducible rfl))
    | refine wpAnyH_take (i := 0) (v := undef) rfl (by kernel_rfl) (by kernel_rfl) (by kernel_rfl) (fun _ _ _ h => h) (Or.inr ⟨by rfl, rfl⟩) hHeld ?_
  try simp only [Act.put, List.getElem_toArray, List.getElem_cons_succ, List.getElem_cons_zero, List.setIfInBounds_toArray, List.set_cons_zero, List.set_cons_succ]
  first
    | (refine wpAnyH_take (i := 1) (v := ?_) rfl (by kernel_rfl) (by kernel_rfl) (by kernel_rfl) (fun _ _ _ h => h) (Or.inl ⟨by rfl, ?_⟩) hHeld ?_; rotate_left; (intro wq hSw; (try dsimp only at hSw); go_simp; done))
    | (refine wpAnyH_take (i := 1) (v := ?_) rfl (by kernel_rfl) (by kernel_rfl) (by kernel_rfl) (fun _ _ _ h => h) (Or.inl ⟨by rfl, ?_⟩) hHeld ?_; rotate_left; (intro wq hSw; (try dsimp only at hSw); go_simp; with_reducible rfl))
    | refine wpAnyH_take (i := 1) (v := undef) rfl (by kernel_rfl) (by kernel_rfl) (by kernel_rfl) (fun _ _ _ h => h) (Or.inr ⟨by rfl, rfl⟩) hHeld ?_
  try simp only [Act.put, List.getElem_toArray, List.getElem_cons_succ, List.getElem_cons_zero, List.setIfInBounds_toArray, List.set_cons_zero, List.set_cons_succ]
  first
    | (refine wpAnyH_take (i := 6) (v := ?_) rfl (by kernel_rfl) (by kernel_rfl) (by kernel_rfl) (fun _ _ _ h => h) (Or.inl ⟨by rfl, ?_⟩) hHeld ?_; rotate_left; (intro wq hSw; (try dsimp only at hSw); go_simp; done))
    | (refine wpAnyH_take (i := 6) (v := ?_) rfl (by kernel_rfl) (by kernel_rfl) (by kernel_rfl) (fun _ _ _ h => h) (Or.inl ⟨by rfl, ?_⟩) hHeld ?_; rotate_left; (intro wq hSw; (try dsimp only at hSw); go_simp; with_reducible rfl))
    | refine wpAnyH_take (i := 6) (v := undef) rfl (by kernel_rfl) (by kernel_rfl) (by kernel_rfl) (fun _ _ _ h => h) (Or.inr ⟨by rfl, rfl⟩) hHeld ?_
  try simp only [Act.put, List.getElem_toArray, List.getElem_cons_succ, List.getElem_cons_zero, List.setIfInBounds_toArray, List.set_cons_zero, List.set_cons_succ]
  first
    | (refine wpAnyH_take (i := 11) (v := ?_) rfl (by kernel_rfl) (by kernel_rfl) (by kernel_rfl) (fun _ _ _ h => h) (Or.inl ⟨by rfl, ?_⟩) hHeld ?_; rotate_left; (intro wq hSw; (try dsimp only at hSw); go_simp; done))
    | (refine wpAnyH_take (i := 11) (v := ?_) rfl (by kernel_rfl) (by kernel_rfl) (by kernel_rfl) (fun _ _ _ h => h) (Or.inl ⟨by rfl, ?_⟩) hHeld ?_; rotate_left; (intro wq hSw; (try dsimp only at hSw); go_simp; with_reducible rfl))
    | refine wpAnyH_take (i := 11) (v := undef) rfl (by kernel_rfl) (by kernel_rfl) (by kernel_rfl) (fun _ _ _ h => h) (Or.inr ⟨by rfl, rfl⟩) hHeld ?_
  try simp only [Act.put, List.getElem_toArray, List.getElem_cons_succ, List.getElem_cons_zero, List.setIfInBounds_toArray, List.set_cons_zero, List.set_cons_succ]
  first
    | (refine wpAnyH_take (i := 16) (v := ?_) rfl (by kernel_rfl) (by kernel_rfl) (by kernel_rfl) (fun _ _ _ h => h) (Or.inl ⟨by rfl, ?_⟩) hHeld ?_; rotate_left; (intro wq hSw; (try dsimp only at hSw); go_simp; done))
    | (refine wpAnyH_take (i := 16) (v := ?_) rfl (by kernel_rfl) (by kernel_rfl) (by kernel_rfl) (fun _ _ _ h => h) (Or.inl ⟨by rfl, ?_⟩) hHeld ?_; rotate_left; (intro wq hSw; (try dsimp only at hSw); go_simp; with_reducible rfl))
    | refine wpAnyH_take (i := 16) (v := undef) rfl (by kernel_rfl) (by kernel_rfl) (by kernel_rfl) (fun _ _ _ h => h) (Or.inr ⟨by rfl, rfl⟩) hHeld ?_
  try simp only [Act.put, List.getElem_toArray, List.getElem_cons_succ, List.getElem_cons_zero, List.setIfInBounds_toArray, List.set_cons_zero, List.set_cons_succ]
  first
    | (refine wpAnyH_take (i := 18) (v := ?_) rfl (by kernel_rfl) (by kernel_rfl) (by kernel_rfl) (fun _ _ _ h => h) (Or.inl ⟨by rfl, ?_⟩) hHeld ?_; rotate_left; (intro wq hSw; (try dsimp only at hSw); go_simp; done))
    | (refine wpAnyH_take (i := 18) (v := ?_) rfl (by kernel_rfl) (by kernel_rfl) (by kernel_rfl) (fun _ _ _ h => h) (Or.inl ⟨by rfl, ?_⟩) hHeld ?_; rotate_left; (intro wq hSw; (try dsimp only at hSw); go_simp; with_reducible rfl))
    | refine wpAnyH_take (i := 18) (v := undef) rfl (by kernel_rfl) (by kernel_rfl) (by kernel_rfl) (fun _ _ _ h => h) (Or.inr ⟨by rfl, rfl⟩) hHeld ?_
  try simp only [Act.put, List.getElem_toArray, List.getElem_cons_succ, List.getElem_cons_zero, List.setIfInBounds_toArray, List.set_cons_zero, List.set_cons_succ]
  first
    | (refine wpAnyH_take (i := 20) (v := ?_) rfl (by kernel_rfl) (by kernel_rfl) (by kernel_rfl) (fun _ _ _ h => h) (Or.inl ⟨by rfl, ?_⟩) hHeld ?_; rotate_left; (intro wq hSw; (try dsimp only at hSw); go_simp; done))
    | (refine wpAnyH_take (i := 20) (v := ?_) rfl (by kernel_rfl) (by kernel_rfl) (by kernel_rfl) (fun _ _ _ h => h) (Or.inl ⟨by rfl, ?_⟩) hHeld ?_; rotate_left; (intro wq hSw; (try dsimp only at hSw); go_simp; with_reducible rfl))
    | refine wpAnyH_take (i := 20) (v := undef) rfl (by kernel_rfl) (by kernel_rfl) (by kernel_rfl) (fun _ _ _ h => h) (Or.inr ⟨by rfl, rfl⟩) hHeld ?_
  try simp only [Act.put, List.getElem_toArray, List.getElem_cons_succ, List.getElem_cons_zero, List.setIfInBounds_toArray, List.set_cons_zero, List.set_cons_succ]
  first
    | (refine wpAnyH_take (i := 22) (v := ?_) rfl (by kernel_rfl) (by kernel_rfl) (by kernel_rfl) (fun _ _ _ h => h) (Or.inl ⟨by rfl, ?_⟩) hHeld ?_; rotate_left; (intro wq hSw; (try dsimp only at hSw); go_simp; done))
    | (refine wpAnyH_take (i := 22) (v := ?_) rfl (by kernel_rfl) (by kernel_rfl) (by kernel_rfl) (fun _ _ _ h => h) (Or.inl ⟨by rfl, ?_⟩) hHeld ?_; rotate_left; (intro wq hSw; (try dsimp only at hSw); go_simp; with_reducible rfl))
    | refine wpAnyH_take (i := 22) (v := undef) rfl (by kernel_rfl) (by kernel_rfl) (by kernel_rfl) (fun _ _ _ h => h) (Or.inr ⟨by rfl, rfl⟩) hHeld ?_
  try simp only [Act.put, List.getElem_toArray, List.getElem_cons_succ, List.getElem_cons_zero, List.setIfInBounds_toArray, List.set_cons_zero, List.set_cons_succ]
  first
    | (refine wpAnyH_take (i := 2) (v := ?_) rfl (by kernel_rfl) (by kernel_rfl) (by kernel_rfl) (fun _ _ _ h => h) (Or.inl ⟨by rfl, ?_⟩) hHeld ?_; rotate_left; (intro wq hSw; (try dsimp only at hSw); go_simp; done))
    | (refine wpAnyH_take (i := 2) (v := ?_) rfl (by kernel_rfl) (by kernel_rfl) (by kernel_rfl) (fun _ _ _ h => h) (Or.inl ⟨by rfl, ?_⟩) hHeld ?_; rotate_left; (intro wq hSw; (try dsimp only at hSw); go_simp; with_reducible rfl))
    | refine wpAnyH_take (i := 2) (v := undef) rfl (by kernel_rfl) (by kernel_rfl) (by kernel_rfl) (fun _ _ _ h => h) (Or.inr ⟨by rfl, rfl⟩) hHeld ?_
  try simp only [Act.put, List.getElem_toArray, List.getElem_cons_succ, List.getElem_cons_zero, List.setIfInBounds_toArray, List.set_cons_zero, List.set_cons_succ]
  first
    | (refine wpAnyH_take (i := 7) (v := ?_) rfl (by kernel_rfl) (by kernel_rfl) (by kernel_rfl) (fun _ _ _ h => h) (Or.inl ⟨by rfl, ?_⟩) hHeld ?_; rotate_left; (intro wq hSw; (try dsimp only at hSw); go_simp; done))
    | (refine wpAnyH_take (i := 7) (v := ?_) rfl (by kernel_rfl) (by kernel_rfl) (by kernel_rfl) (fun _ _ _ h => h) (Or.inl ⟨by rfl, ?_⟩) hHeld ?_; rotate_left; (intro wq hSw; (try dsimp only at hSw); go_simp; with_reducible rfl))
    | refine wpAnyH_take (i := 7) (v := undef) rfl (by kernel_rfl) (by kernel_rfl) (by kernel_rfl) (fun _ _ _ h => h) (Or.inr ⟨by rfl, rfl⟩) hHeld ?_
  try simp only [Act.put, List.getElem_toArray, List.getElem_cons_succ, List.getElem_cons_zero, List.setIfInBounds_toArray, List.set_cons_zero, List.set_cons_succ]
  first
    | (refine wpAnyH_take (i := 12) (v := ?_) rfl (by kernel_rfl) (by kernel_rfl) (by kernel_rfl) (fun _ _ _ h => h) (Or.inl ⟨by rfl, ?_⟩) hHeld ?_; rotate_left; (intro wq hSw; (try dsimp only at hSw); go_simp; done))
    | (refine wpAnyH_take (i := 12) (v := ?_) rfl (by kernel_rfl) (by kernel_rfl) (by kernel_rfl) (fun _ _ _ h => h) (Or.inl ⟨by rfl, ?_⟩) hHeld ?_; rotate_left; (intro wq hSw; (try dsimp only at hSw); go_simp; with_reducible rfl))
    | refine wpAnyH_take (i := 12) (v := undef) rfl (by kernel_rfl) (by kernel_rfl) (by kernel_rfl) (fun _ _ _ h => h) (Or.inr ⟨by rfl, rfl⟩) hHeld ?_
  try simp only [Act.put, List.getElem_toArray, List.getElem_cons_succ, List.getElem_cons_zero, List.setIfInBounds_toArray, List.set_cons_zero, List.set_cons_succ]
  first
    | (refine wpAnyH_take (i := 17) (v := ?_) rfl (by kernel_rfl) (by kernel_rfl) (by kernel_rfl) (fun _ _ _ h => h) (Or.inl ⟨by rfl, ?_⟩) hHeld ?_; rotate_left; (intro wq hSw; (try dsimp only at hSw); obtain ⟨y0, y1, y2⟩ := fl_cells hSw.2.1; go_simp; done))
    | (refine wpAnyH_take (i := 17) (v := ?_) rfl (by kernel_rfl) (by kernel_rfl) (by kernel_rfl) (fun _ _ _ h => h) (Or.inl ⟨by rfl, ?_⟩) hHeld ?_; rotate_left; (intro wq hSw; (try dsimp only at hSw); obtain ⟨y0, y1, y2⟩ := fl_cells hSw.2.1; go_simp; with_reducible rfl))
    | refine wpAnyH_take (i := 17) (v := undef) rfl (by kernel_rfl) (by kernel_rfl) (by kernel_rfl) (fun _ _ _ h => h) (Or.inr ⟨by rfl, rfl⟩) hHeld ?_
  try simp only [Act.put, List.getElem_toArray, List.getElem_cons_succ, List.getElem_cons_zero, List.setIfInBounds_toArray, List.set_cons_zero, List.set_cons_succ]
  first
    | (refine wpAnyH_take (i := 19) (v := ?_) rfl (by kernel_rfl) (by kernel_rfl) (by kernel_rfl) (fun _ _ _ h => h) (Or.inl ⟨by rfl, ?_⟩) hHeld ?_; rotate_left; (intro wq hSw; (try dsimp only at hSw); obtain ⟨m0, m1, m2, m3, m4, m5⟩ := hSw.1.cells; go_simp; done))
    | (refine wpAnyH_take (i := 19) (v := ?_) rfl (by kernel_rfl) (by kernel_rfl) (by kernel_rfl) (fun _ _ _ h => h) (Or.inl ⟨by rfl, ?_⟩) hHeld ?_; rotate_left; (intro wq hSw; (try dsimp only at hSw); obtain ⟨m0, m1, m2, m3, m4, m5⟩ := hSw.1.cells; go_simp; with_reducible rfl))
    | refine wpAnyH_take (i := 19) (v := undef) rfl (by kernel_rfl) (by kernel_rfl) (by kernel_rfl) (fun _ _ _ h => h) (Or.inr ⟨by rfl, rfl⟩) hHeld ?_
  try simp only [Act.put, List.getElem_toArray, List.getElem_cons_succ, List.getElem_cons_zero, List.setIfInBounds_toArray, List.set_cons_zero, List.set_cons_succ]
  first
    | (refine wpAnyH_take (i := 21) (v := ?_) rfl (by kernel_rfl) (by kernel_rfl) (by kernel_rfl) (fun _ _ _ h => h) (Or.inl ⟨by rfl, ?_⟩) hHeld ?_; rotate_left; (intro wq hSw; (try dsimp only at hSw); obtain ⟨m0, m1, m2, m3, m4, m5⟩ := hSw.1.cells; go_simp; done))
    | (refine wpAnyH_take (i := 21) (v := ?_) rfl (by kernel_rfl) (by kernel_rfl) (by kernel_rfl) (fun _ _ _ h => h) (Or.inl ⟨by rfl, ?_⟩) hHeld ?_; rotate_left; (intro wq hSw; (try dsimp only at hSw); obtain ⟨m0, m1, m2, m3, m4, m5⟩ := hSw.1.cells; go_simp; with_reducible rfl))
    | refine wpAnyH_take (i := 21) (v := undef) rfl (by kernel_rfl) (by kernel_rfl) (by kernel_rfl) (fun _ _ _ h => h) (Or.inr ⟨by rfl, rfl⟩) hHeld ?_
  try simp only [Act.put, List.getElem_toArray, List.getElem_cons_succ, List.getElem_cons_zero, List.setIfInBounds_toArray, List.set_cons_zero, List.set_cons_succ]
  first
    | (refine wpAnyH_take (i := 23) (v := ?_) rfl (by kernel_rfl) (by kernel_rfl) (by kernel_rfl) (fun _ _ _ h => h) (Or.inl ⟨by rfl, ?_⟩) hHeld ?_; rotate_left; (intro wq hSw; (try dsimp only at hSw); go_simp; done))
    | (refine wpAnyH_take (i := 23) (v := ?_) rfl (by kernel_rfl) (by kernel_rfl) (by kernel_rfl) (fun _ _ _ h => h) (Or.inl ⟨by rfl, ?_⟩) hHeld ?_; rotate_left; (intro wq hSw; (try dsimp only at hSw); go_simp; with_reducible rfl))
    | refine wpAnyH_take (i := 23) (v := undef) rfl (by kernel_rfl) (by kernel_rfl) (by kernel_rfl) (fun _ _ _ h => h) (Or.inr ⟨by rfl, rfl⟩) hHeld ?_
  try simp only [Act.put, List.getElem_toArray, List.getElem_cons_succ, List.getElem_cons_zero, List.setIfInBounds_toArray, List.set_cons_zero, List.set_cons_succ]
  first
    | (refine wpAnyH_take (i := 3) (v := ?_) rfl (by kernel_rfl) (by kernel_rfl) (by kernel_rfl) (fun _ _ _ h => h) (Or.inl ⟨by rfl, ?_⟩) hHeld ?_; rotate_left; (intro wq hSw; (try dsimp only at hSw); go_simp; done))
    | (refine wpAnyH_take (i := 3) (v := ?_) rfl (by kernel_rfl) (by kernel_rfl) (by kernel_rfl) (fun _ _ _ h => h) (Or.inl ⟨by rfl, ?_⟩) hHeld ?_; rotate_left; (intro wq hSw; (try dsimp only at hSw); go_simp; with_reducible rfl))
    | refine wpAnyH_take (i := 3) (v := undef) rfl (by kernel_rfl) (by kernel_rfl) (by kernel_rfl) (fun _ _ _ h => h) (Or.inr ⟨by rfl, rfl⟩) hHeld ?_
  try simp only [Act.put, List.getElem_toArray, List.getElem_cons_succ, List.getElem_cons_zero, List.setIfInBounds_toArray, List.set_cons_zero, List.set_cons_succ]
  first
    | (refine wpAnyH_take (i := 8) (v := ?_) rfl (by kernel_rfl) (by kernel_rfl) (by kernel_rfl) (fun _ _ _ h => h) (Or.inl ⟨by rfl, ?_⟩) hHeld ?_; rotate_left; (intro wq hSw; (try dsimp only at hSw); go_simp; done))
    | (refine wpAnyH_take (i := 8) (v := ?_) rfl (by kernel_rfl) (by kernel_rfl) (by kernel_rfl) (fun _ _ _ h => h) (Or.inl ⟨by rfl, ?_⟩) hHeld ?_; rotate_left; (intro wq hSw; (try dsimp only at hSw); go_simp; with_reducible rfl))
    | refine wpAnyH_take (i := 8) (v := undef) rfl (by kernel_rfl) (by kernel_rfl) (by kernel_rfl) (fun _ _ _ h => h) (Or.inr ⟨by rfl, rfl⟩) hHeld ?_
  try simp only [Act.put, List.getElem_toArray, List.getElem_cons_succ, List.getElem_cons_zero, List.setIfInBounds_toArray, List.set_cons_zero, List.set_cons_succ]
  first
    | (refine wpAnyH_take (i := 13) (v := ?_) rfl (by kernel_rfl) (by kernel_rfl) (by kernel_rfl) (fun _ _ _ h => h) (Or.inl ⟨by rfl, ?_⟩) hHeld ?_; rotate_left; (intro wq hSw; (try dsimp only at hSw); go_simp; done))
    | (refine wpAnyH_take (i := 13) (v := ?_) rfl (by kernel_rfl) (by kernel_rfl) (by kernel_rfl) (fun _ _ _ h => h) (Or.inl ⟨by rfl, ?_⟩) hHeld ?_; rotate_left; (intro wq hSw; (try dsimp only at hSw); go_simp; with_reducible rfl))
    | refine wpAnyH_take (i := 13) (v := undef) rfl (by kernel_rfl) (by kernel_rfl) (by kernel_rfl) (fun _ _ _ h => h) (Or.inr ⟨by rfl, rfl⟩) hHeld ?_
  try simp only [Act.put, List.getElem_toArray, List.getElem_cons_succ, List.getElem_cons_zero, List.setIfInBounds_toArray, List.set_cons_zero, List.set_cons_succ]
  first
    | (refine wpAnyH_take (i := 24) (v := ?_) rfl (by kernel_rfl) (by kernel_rfl) (by kernel_rfl) (fun _ _ _ h => h) (Or.inl ⟨by rfl, ?_⟩) hHeld ?_; rotate_left; (intro wq hSw; (try dsimp only at hSw); go_simp; done))
    | (refine wpAnyH_take (i := 24) (v := ?_) rfl (by kernel_rfl) (by kernel_rfl) (by kernel_rfl) (fun _ _ _ h => h) (Or.inl ⟨by rfl, ?_⟩) hHeld ?_; rotate_left; (intro wq hSw; (try dsimp only at hSw); go_simp; with_reducible rfl))
    | refine wpAnyH_take (i := 24) (v := undef) rfl (by kernel_rfl) (by kernel_rfl) (by kernel_rfl) (fun _ _ _ h => h) (Or.inr ⟨by rfl, rfl⟩) hHeld ?_
  try simp only [Act.put, List.getElem_toArray, List.getElem_cons_succ, List.getElem_cons_zero, List.setIfInBounds_toArray, List.set_cons_zero, List.set_cons_succ]
  first
    | (refine wpAnyH_take (i := 4) (v := ?_) rfl (by kernel_rfl) (by kernel_rfl) (by kernel_rfl) (fun _ _ _ h => h) (Or.inl ⟨by rfl, ?_⟩) hHeld ?_; rotate_left; (intro wq hSw; (try dsimp only at hSw); go_simp; done))
    | (refine wpAnyH_take (i := 4) (v := ?_) rfl (by kernel_rfl) (by kernel_rfl) (by kernel_rfl) (fun _ _ _ h => h) (Or.inl ⟨by rfl, ?_⟩) hHeld ?_; rotate_left; (intro wq hSw; (try dsimp only at hSw); go_simp; with_reducible rfl))
    | refine wpAnyH_take (i := 4) (v := undef) rfl (by kernel_rfl) (by kernel_rfl) (by kernel_rfl) (fun _ _ _ h => h) (Or.inr ⟨by rfl, rfl⟩) hHeld ?_
  try simp only [Act.put, List.getElem_toArray, List.getElem_cons_succ, List.getElem_cons_zero, List.setIfInBounds_toArray, List.set_cons_zero, List.set_cons_succ]
  first
    | (refine wpAnyH_take (i := 9) (v := ?_) rfl (by kernel_rfl) (by kernel_rfl) (by kernel_rfl) (fun _ _ _ h => h) (Or.inl ⟨by rfl, ?_⟩) hHeld ?_; rotate_left; (intro wq hSw; (try dsimp only at hSw); have v13 := hSw.clock; go_simp; done))
    | (refine wpAnyH_take (i := 9) (v := ?_) rfl (by kernel_rfl) (by kernel_rfl) (by kernel_rfl) (fun _ _ _ h => h) (Or.inl ⟨by rfl, ?_⟩) hHeld ?_; rotate_left; (intro wq hSw; (try dsimp only at hSw); have v13 := hSw.clock; go_simp; with_reducible rfl))
    | refine wpAnyH_take (i := 9) (v := undef) rfl (by kernel_rfl) (by kernel_rfl) (by kernel_rfl) (fun _ _ _ h => h) (Or.inr ⟨by rfl, rfl⟩) hHeld ?_
  try simp only [Act.put, List.getElem_toArray, List.getElem_cons_succ, List.getElem_cons_zero, List.setIfInBounds_toArray, List.set_cons_zero, List.set_cons_succ]
  first
    | (refine wpAnyH_take (i := 14) (v := ?_) rfl (by kernel_rfl) (by kernel_rfl) (by kernel_rfl) (fun _ _ _ h => h) (Or.inl ⟨by rfl, ?_⟩) hHeld ?_; rotate_left; (intro wq hSw; (try dsimp only at hSw); go_simp; done))
    | (refine wpAnyH_take (i := 14) (v := ?_) rfl (by kernel_rfl) (by kernel_rfl) (by kernel_rfl) (fun _ _ _ h => h) (Or.inl ⟨by rfl, ?_⟩) hHeld ?_; rotate_left; (intro wq hSw; (try dsimp only at hSw); go_simp; with_reducible rfl))
    | refine wpAnyH_take (i := 14) (v := undef) rfl (by kernel_rfl) (by kernel_rfl) (by kernel_rfl) (fun _ _ _ h => h) (Or.inr ⟨by rfl, rfl⟩) hHeld ?_
  try simp only [Act.put, List.getElem_toArray, List.getElem_cons_succ, List.getElem_cons_zero, List.setIfInBounds_toArray, List.set_cons_zero, List.set_cons_succ]
  first
    | (refine wpAnyH_take (i := 25) (v := ?_) rfl (by kernel_rfl) (by kernel_rfl) (by kernel_rfl) (fun _ _ _ h => h) (Or.inl ⟨by rfl, ?_⟩) hHeld ?_; rotate_left; (intro wq hSw; (try dsimp only at hSw); have v13 := hSw.clock; go_simp; done))
    | (refine wpAnyH_take (i := 25) (v := ?_) rfl (by kernel_rfl) (by kernel_rfl) (by kernel_rfl) (fun _ _ _ h => h) (Or.inl ⟨by rfl, ?_⟩) hHeld ?_; rotate_left; (intro wq hSw; (try dsimp only at hSw); have v13 := hSw.clock; go_simp; with_reducible rfl))
    | refine wpAnyH_take (i := 25) (v := undef) rfl (by kernel_rfl) (by kernel_rfl) (by kernel_rfl) (fun _ _ _ h => h) (Or.inr ⟨by rfl, rfl⟩) hHeld ?_
  try simp only [Act.put, List.getElem_toArray, List.getElem_cons_succ, List.getElem_cons_zero, List.setIfInBounds_toArray, List.set_cons_zero, List.set_cons_succ]
  first
    | (refine wpAnyH_take (i := 15) (v := ?_) rfl (by kernel_rfl) (by kernel_rfl) (by kernel_rfl) (fun _ _ _ h => h) (Or.inl ⟨by rfl, ?_⟩) hHeld ?_; rotate_left; (intro wq hSw; (try dsimp only at hSw); obtain ⟨v1, v2, v3, v4, v5, v6, v7, v8, v9⟩ := hSw.conf; go_simp; done))
    | (refine wpAnyH_take (i := 15) (v := ?_) rfl (by kernel_rfl) (by kernel_rfl) (by kernel_rfl) (fun _ _ _ h => h) (Or.inl ⟨by rfl, ?_⟩) hHeld ?_; rotate_left; (intro wq hSw; (try dsimp only at hSw); obtain ⟨v1, v2, v3, v4, v5, v6, v7, v8, v9⟩ := hSw.conf; go_simp; with_reducible rfl))
    | refine wpAnyH_take (i := 15) (v := undef) rfl (by kernel_rfl) (by kernel_rfl) (by kernel_rfl) (fun _ _ _ h => h) (Or.inr ⟨by rfl, rfl⟩) hHeld ?_
  try simp only [Act.put, List.getElem_toArray, List.getElem_cons_succ, List.getElem_cons_zero, List.setIfInBounds_toArray, List.set_cons_zero, List.set_cons_succ]
  refine wpAnyH_ready (rs := [5]) (by kernel_rfl) (by simp) ?_
  refine AllReadyH.cons rfl (fun K hK => ?_) AllReadyH.nil
  go_simp
  refine hK.out _ _ ?_ (fun hHeld => ?_)
  · (try dsimp only); first | done | ((first | exact hS | skip))
  clear hK K
  try simp only [Act.put, List.getElem_toArray, List.getElem_cons_succ, List.getElem_cons_zero, List.setIfInBounds_toArray, List.set_cons_zero, List.set_cons_succ]
  refine wpAnyH_ready (rs := [10]) (by kernel_rfl) (by simp) ?_
  refine AllReadyH.cons rfl (fun K hK => ?_) AllReadyH.nil
  go_simp; go_at_call 51; refine (fresh_ow (w := W9.drew) hl9 (by omega) HF.out rfl).mono ?_; rintro e wa ⟨Aa, ca, rfl, hoa, hba⟩; replace hbx := hbx.trans (hba.mono hbx.size); have hlen : wa.heap.size = wa.heap.size := rfl; replace hoa : OwKn wa W9.heap.size Aa F.length ca F := hoa; replace hS := (hRB.next hbx).s; clear hba hlen; try go_wp2_with fail
  refine hK.out _ _ ?_ (fun hHeld => ?_)
  · (try dsimp only); first | done | ((first | exact hS | skip))
  clear hK K
  try simp only [Act.put, List.getElem_toArray, List.getElem_cons_succ, List.getElem_cons_zero, List.setIfInBounds_toArray, List.set_cons_zero, List.set_cons_succ]
  refine wpAnyH_ready (rs := [26]) (by kernel_rfl) (by simp) ?_
  refine AllReadyH.cons rfl (fun K hK => ?_) AllReadyH.nil
  go_simp; go_at_call 52; refine (entry_at HE.out).mono ?_; rintro e wb ⟨rfl, hbb2⟩; replace hbx := hbx.trans (hbb2.mono hbx.size); replace hoa := OwR.below hoa hbb2; replace hS := (hRB.next hbx).s; clear hbb2; try go_wp2_with fail
  refine hK.out _ _ ?_ (fun hHeld => ?_)
  · (try dsimp only); first | done | ((first | exact hS | skip))
  clear hK K
  try simp only [Act.put, List.getElem_toArray, List.getElem_cons_succ, List.getElem_cons_zero, List.setIfInBounds_toArray, List.set_cons_zero, List.set_cons_succ]
  refine wpAnyH_ready (rs := [27]) (by kernel_rfl) (by simp) ?_
  refine AllReadyH.cons rfl (fun K hK => ?_) AllReadyH.nil
  go_simp; have hm1 := (Kns.new1 wb _ rfl E 110).more (B' := (wb.alloc (.cells #[.string E.1, .string E.2.1, .int .i64 E.2.2.1, .int .i64 E.2.2.2] 110)).heap.size) (by simp); have hbn := Below.new_ wb (.cells #[.string E.1, .string E.2.1, .int .i64 E.2.2.1, .int .i64 E.2.2.2] 110); replace hbx := hbx.trans (hbn.mono hbx.size); replace hoa := OwR.below hoa hbn; replace hS := (hRB.next hbx).s; clear hbn
  refine hK.out _ _ ?_ (fun hHeld => ?_)
  · (try dsimp only); first | done | ((first | exact hS | skip))
  clear hK K
  try simp only [Act.put, List.getElem_toArray, List.getElem_cons_succ, List.getElem_cons_zero, List.setIfInBounds_toArray, List.set_cons_zero, List.set_cons_succ]
  refine wpAnyH_ready (rs := [28]) (by kernel_rfl) (by simp) ?_
  refine AllReadyH.cons rfl (fun K hK => ?_) AllReadyH.nil
  go_simp; go_at_call 50; refine (put_ow hoa.recs hm1 (by omega) (by omega) HPK.out rfl).mono ?_; rintro e wd ⟨Ad, cd, rfl, hod, hbd⟩; have hwd : w.heap.size ≤ (wb.alloc (.cells #[.string E.1, .string E.2.1, .int .i64 E.2.2.1, .int .i64 E.2.2.2] 110)).heap.size := Nat.le_trans hwl hbx.size; replace hbx := hbx.trans (hbd.mono hbx.size); have hRD := hRB.next hbx; have hoD := OwR.below hoB hbx; replace hod : OwKn wd w.heap.size Ad R.length cd R := ⟨hod.1, hod.2.rebase hwd⟩; replace hS := hRD.s; obtain ⟨k0, k10, k11, k12, k13, k14, k15⟩ := hRD.kp.cells; obtain ⟨p10, p11, p12, p15⟩ := hRD.kp.free; clear hbd hoa hm1 hwd k0 k11 k12 k13 k14 k15 p11 p12 p15; try go_wp2_with fail
  refine hK.out _ _ ?_ (fun hHeld => ?_)
  · (try dsimp only); first | done | ((first | exact hS | skip))
  clear hK K
  try simp only [Act.put, List.getElem_toArray, List.getElem_cons_succ, List.getElem_cons_zero, List.setIfInBounds_toArray, List.set_cons_zero, List.set_cons_succ]
  first
    | (refine wpAnyH_take (i := 29) (v := ?_) rfl (by kernel_rfl) (by kernel_rfl) (by kernel_rfl) (fun _ _ _ h => h) (Or.inl ⟨by rfl, ?_⟩) hHeld ?_; rotate_left; (intro wq hSw; (try dsimp only at hSw); go_simp; done))
    | (refine wpAnyH_take (i := 29) (v := ?_) rfl (by kernel_rfl) (by kernel_rfl) (by kernel_rfl) (fun _ _ _ h => h) (Or.inl ⟨by rfl, ?_⟩) hHeld ?_; rotate_left; (intro wq hSw; (try dsimp only at hSw); go_simp; with_reducible rfl))
    | refine wpAnyH_take (i := 29) (v := undef) rfl (by kernel_rfl) (by kernel_rfl) (by kernel_rfl) (fun _ _ _ h => h) (Or.inr ⟨by rfl, rfl⟩) hHeld ?_
  try simp only [Act.put, List.getElem_toArray, List.getElem_cons_succ, List.getElem_cons_zero, List.setIfInBounds_toArray, List.set_cons_zero, List.set_cons_succ]
  first
    | (refine wpAnyH_take (i := 30) (v := ?_) rfl (by kernel_rfl) (by kernel_rfl) (by kernel_rfl) (fun _ _ _ h => h) (Or.inl ⟨by rfl, ?_⟩) hHeld ?_; rotate_left; (intro wq hSw; (try dsimp only at hSw); go_simp; done))
    | (refine wpAnyH_take (i := 30) (v := ?_) rfl (by kernel_rfl) (by kernel_rfl) (by kernel_rfl) (fun _ _ _ h => h) (Or.inl ⟨by rfl, ?_⟩) hHeld ?_; rotate_left; (intro wq hSw; (try dsimp only at hSw); go_simp; with_reducible rfl))
    | refine wpAnyH_take (i := 30) (v := undef) rfl (by kernel_rfl) (by kernel_rfl) (by kernel_rfl) (fun _ _ _ h => h) (Or.inr ⟨by rfl, rfl⟩) hHeld ?_
  try simp only [Act.put, List.getElem_toArray, List.getElem_cons_succ, List.getElem_cons_zero, List.setIfInBounds_toArray, List.set_cons_zero, List.set_cons_succ]
  first
    | (refine wpAnyH_take (i := 31) (v := ?_) rfl (by kernel_rfl) (by kernel_rfl) (by kernel_rfl) (fun _ _ _ h => h) (Or.inl ⟨by rfl, ?_⟩) hHeld ?_; rotate_left; (intro wq hSw; (try dsimp only at hSw); go_simp; done))
    | (refine wpAnyH_take (i := 31) (v := ?_) rfl (by kernel_rfl) (by kernel_rfl) (by kernel_rfl) (fun _ _ _ h => h) (Or.inl ⟨by rfl, ?_⟩) hHeld ?_; rotate_left; (intro wq hSw; (try dsimp only at hSw); go_simp; with_reducible rfl))
    | refine wpAnyH_take (i := 31) (v := undef) rfl (by kernel_rfl) (by kernel_rfl) (by kernel_rfl) (fun _ _ _ h => h) (Or.inr ⟨by rfl, rfl⟩) hHeld ?_
  try simp only [Act.put, List.getElem_toArray, List.getElem_cons_succ, List.getElem_cons_zero, List.setIfInBounds_toArray, List.set_cons_zero, List.set_cons_succ]
  refine wpAnyH_ready (rs := [32]) (by kernel_rfl) (by simp) ?_
  refine AllReadyH.cons rfl (fun K hK => ?_) AllReadyH.nil
  go_simp; have hRE := hRD.setK lg Ad R.length cd; replace hS := hRE.s
  refine hK.out _ _ ?_ (fun hHeld => ?_)
  · (try dsimp only); first | done | ((first | exact hS | skip))
  clear hK K
  try simp only [Act.put, List.getElem_toArray, List.getElem_cons_succ, List.getElem_cons_zero, List.setIfInBounds_toArray, List.set_cons_zero, List.set_cons_succ]
  refine wpAnyH_done (by kernel_rfl) ?_ _
  have hoE : OwFl (wd.setCell ⟨g, 10, none⟩ (.slice Ad R.length cd)) w.heap.size (some ⟨gr, 0, none⟩) (h.fn - 1) c7 _ := ⟨hoD.1, hoD.2.set (p := ⟨g, 10, none⟩) (hRD.kp.ne hoD.2 (by decide)) _⟩; have hkE : OwKn (wd.setCell ⟨g, 10, none⟩ (.slice Ad R.length cd)) w.heap.size Ad R.length cd R := ⟨hod.1, hod.2.set (p := ⟨g, 10, none⟩) (hRD.kp.ne hod.2 (by decide)) _⟩; have HALL := Lib.hid (And.intro hRE (And.intro hoE hkE)); clear hRE hoE hkE hHeld hS hbx hRD hoD hod k10 p10 z10 hRB hoB hl9; go_wp2_with fail; go_end0; rw [HR.out]; exact StepK.rows (i := i) rfl hF hFB hB lg HALL.out.1 HALL.out.2.1 HALL.out.2.2 rfl
end Go.Proofs.Ytfahmfaakjnpcaa
