/-
  The keeper of names (namer.keeper) in memory; what its tells and find compute. Conditions: bounds on lengths are premises.
-/
import Derived.Test.YtfahmfaakjnpcaaNm
import Derived.Test.YtfahmfaakjnpcaaDuctOf
import Derived.RegionTactic
namespace Go.Proofs.Ytfahmfaakjnpcaa
set_option linter.unusedVariables false
set_option linter.unusedSimpArgs false
open Go.RowKit Go.Shelf

/-- A letter: kind, from, number, socket, text, error. -/
structure Lt where
  k : Int
  f : Int
  n : Int
  s : Int
  t : ByteArray
  e : Int
abbrev valLt (m : Lt) : Value := .agg #[.int .i8 m.k, .int .i64 m.f, .int .i64 m.n, .int .i64 m.s, .string m.t, .int .i64 m.e]
def LtAt (w : World) (g : Nat) (m : Lt) : Prop := w.heap[g]? = some (.cells #[.int .i8 m.k, .int .i64 m.f, .int .i64 m.n, .int .i64 m.s, .string m.t, .int .i64 m.e] 40 (0, 0))
theorem LtAt.lt {w : World} {g : Nat} {m : Lt} (h : LtAt w g m) : g < w.heap.size := (Array.getElem?_eq_some_iff.1 h).1
theorem LtAt.new (w : World) (m : Lt) : LtAt (w.alloc (.cells #[.int .i8 m.k, .int .i64 m.f, .int .i64 m.n, .int .i64 m.s, .string m.t, .int .i64 m.e] 40)) w.heap.size m := heap_alloc_new w _
theorem LtAt.cells {w : World} {g : Nat} {m : Lt} (h : LtAt w g m) : w.cell? ⟨g, 0, none⟩ = some (.int .i8 m.k) ∧ w.cell? ⟨g, 1, none⟩ = some (.int .i64 m.f) ∧ w.cell? ⟨g, 2, none⟩ = some (.int .i64 m.n) ∧ w.cell? ⟨g, 3, none⟩ = some (.int .i64 m.s) ∧ w.cell? ⟨g, 4, none⟩ = some (.string m.t) ∧ w.cell? ⟨g, 5, none⟩ = some (.int .i64 m.e) := by
  unfold LtAt at h
  exact ⟨by simp [World.cell?, h], by simp [World.cell?, h], by simp [World.cell?, h], by simp [World.cell?, h], by simp [World.cell?, h], by simp [World.cell?, h]⟩
theorem LtAt.block {w w' : World} {g : Nat} {m : Lt} (h : LtAt w g m) (hb : w'.heap[g]? = w.heap[g]?) : LtAt w' g m := hb.trans h
theorem LtAt.below {w w' : World} {g B : Nat} {m : Lt} (h : LtAt w g m) (hb : Below B w w') (hg : g < B) : LtAt w' g m := (hb.block g hg).trans h
theorem LtAt.grown {w w' : World} {g q : Nat} {m : Lt} (h : LtAt w g m) (hg : w.grownBy w' (some q)) (hne : g ≠ q) : LtAt w' g m := (hg.block g h.lt (fun e => hne (by injection e))).trans h

/-- The keeper at block g: the namer h, the clock, the next number, its deeds. -/
def Kp (w : World) (g : Nat) (h : NmH) (ck nx : Int) (D : Option Addr) (dn dc : Nat) : Prop := w.heap[g]? = some (.cells #[.int .i64 h.id, .int .i64 h.cf.1, .int .i64 h.cf.2.1, .int .i64 h.cf.2.2.1, .int .i64 h.cf.2.2.2.1, .int .i64 h.cf.2.2.2.2.1, .int .i64 h.cf.2.2.2.2.2.1, .int .i64 h.cf.2.2.2.2.2.2.1, .int .i64 h.cf.2.2.2.2.2.2.2.1, .int .i64 h.cf.2.2.2.2.2.2.2.2, .slice h.kA h.kn h.kc, .slice h.fA h.fn h.fc, .bool h.over, .int .i64 ck, .int .i64 nx, .slice D dn dc] 92 (0, 0))
section
variable {w w' : World} {g B : Nat} {h : NmH} {ck nx : Int} {D : Option Addr} {dn dc : Nat}
theorem Kp.lt (hk : Kp w g h ck nx D dn dc) : g < w.heap.size := (Array.getElem?_eq_some_iff.1 hk).1
theorem Kp.block (hk : Kp w g h ck nx D dn dc) (hb : w'.heap[g]? = w.heap[g]?) : Kp w' g h ck nx D dn dc := hb.trans hk
theorem Kp.below (hk : Kp w g h ck nx D dn dc) (hb : Below B w w') (hg : g < B) : Kp w' g h ck nx D dn dc := (hb.block g hg).trans hk
theorem Kp.next (hk : Kp w g h ck nx D dn dc) (hb : Below w.heap.size w w') : Kp w' g h ck nx D dn dc := hk.below hb hk.lt
theorem Kp.cells (hk : Kp w g h ck nx D dn dc) : w.cell? ⟨g, 0, none⟩ = some (.int .i64 h.id) ∧ w.cell? ⟨g, 10, none⟩ = some (.slice h.kA h.kn h.kc) ∧ w.cell? ⟨g, 11, none⟩ = some (.slice h.fA h.fn h.fc) ∧ w.cell? ⟨g, 12, none⟩ = some (.bool h.over) ∧
    w.cell? ⟨g, 13, none⟩ = some (.int .i64 ck) ∧ w.cell? ⟨g, 14, none⟩ = some (.int .i64 nx) ∧ w.cell? ⟨g, 15, none⟩ = some (.slice D dn dc) := by
  unfold Kp at hk
  exact ⟨by simp [World.cell?, hk], by simp [World.cell?, hk], by simp [World.cell?, hk], by simp [World.cell?, hk], by simp [World.cell?, hk], by simp [World.cell?, hk], by simp [World.cell?, hk]⟩
theorem Kp.conf (hk : Kp w g h ck nx D dn dc) : w.cell? ⟨g, 1, none⟩ = some (.int .i64 h.cf.1) ∧ w.cell? ⟨g, 2, none⟩ = some (.int .i64 h.cf.2.1) ∧ w.cell? ⟨g, 3, none⟩ = some (.int .i64 h.cf.2.2.1) ∧ w.cell? ⟨g, 4, none⟩ = some (.int .i64 h.cf.2.2.2.1) ∧ w.cell? ⟨g, 5, none⟩ = some (.int .i64 h.cf.2.2.2.2.1) ∧ w.cell? ⟨g, 6, none⟩ = some (.int .i64 h.cf.2.2.2.2.2.1) ∧ w.cell? ⟨g, 7, none⟩ = some (.int .i64 h.cf.2.2.2.2.2.2.1) ∧ w.cell? ⟨g, 8, none⟩ = some (.int .i64 h.cf.2.2.2.2.2.2.2.1) ∧ w.cell? ⟨g, 9, none⟩ = some (.int .i64 h.cf.2.2.2.2.2.2.2.2) := by
  unfold Kp at hk
  exact ⟨by simp [World.cell?, hk], by simp [World.cell?, hk], by simp [World.cell?, hk], by simp [World.cell?, hk], by simp [World.cell?, hk], by simp [World.cell?, hk], by simp [World.cell?, hk], by simp [World.cell?, hk], by simp [World.cell?, hk]⟩
theorem Kp.free (hk : Kp w g h ck nx D dn dc) : w.frozen? ⟨g, 10, none⟩ = false ∧ w.frozen? ⟨g, 11, none⟩ = false ∧ w.frozen? ⟨g, 12, none⟩ = false ∧ w.frozen? ⟨g, 15, none⟩ = false := by
  unfold Kp at hk
  exact ⟨by simp [World.frozen?, hk], by simp [World.frozen?, hk], by simp [World.frozen?, hk], by simp [World.frozen?, hk]⟩
theorem Kp.setD (hk : Kp w g h ck nx D dn dc) {D' : Option Addr} {dn' dc' : Nat} : Kp (w.setCell ⟨g, 15, none⟩ (.slice D' dn' dc')) g h ck nx D' dn' dc' := by unfold Kp at hk ⊢; simp [World.setCell, Array.getElem?_modify, hk]
theorem Kp.setO (hk : Kp w g h ck nx D dn dc) (b : Bool) : Kp (w.setCell ⟨g, 12, none⟩ (.bool b)) g { h with over := b } ck nx D dn dc := by unfold Kp at hk ⊢; simp [World.setCell, Array.getElem?_modify, hk]
theorem Kp.setF (hk : Kp w g h ck nx D dn dc) {A' : Option Addr} {n' c' : Nat} : Kp (w.setCell ⟨g, 11, none⟩ (.slice A' n' c')) g { h with fA := A', fn := n', fc := c' } ck nx D dn dc := by unfold Kp at hk ⊢; simp [World.setCell, Array.getElem?_modify, hk]
theorem Kp.setK (hk : Kp w g h ck nx D dn dc) {A' : Option Addr} {n' c' : Nat} : Kp (w.setCell ⟨g, 10, none⟩ (.slice A' n' c')) g { h with kA := A', kn := n', kc := c' } ck nx D dn dc := by unfold Kp at hk ⊢; simp [World.setCell, Array.getElem?_modify, hk]
theorem Kp.ne {base k n c : Nat} {e : TypeId} {A : Option Addr} {xs : List Value} (hk : Kp w g h ck nx D dn dc) (ho : Ow w base e k A n c xs) (he : e ≠ 92) : ∀ q, rowOf A c = some q → q ≠ g := by
  rintro q hq rfl
  rcases ho.2.2.2 with h0 | ⟨g', cur, rfl, _, hh, _⟩
  · simp [rowOf, h0] at hq
  · unfold rowOf at hq
    split at hq
    · cases hq
    · simp at hq
      subst hq
      unfold Kp at hk
      rw [hk] at hh
      injection hh with hh
      injection hh with h1 h2 h3
      exact he h2.symm
end
theorem grown_set {w w' : World} {row : Option Nat} {g : Nat} (h : w.grownBy w' row) (p : Addr) (hp : p.block = g) (hr : row = some g) (u : Value) : w.grownBy (w'.setCell p u) (some g) := by
  subst hr hp
  exact grown_trans h (grown_setCell w' p u)
theorem grown_below {w w' : World} {g : Nat} (h : Below w.heap.size w w') : w.grownBy w' (some g) := ⟨h.os, h.tape, h.output, h.size, fun q hq _ => h.block q hq⟩
theorem below_grown {w w' : World} {g B : Nat} (h : w.grownBy w' (some g)) (hB : B ≤ g) (hg : g < w.heap.size) : Below B w w' :=
  (Below.refl B w).grown h (by omega) (fun k hk => by injection hk with hk; omega)
theorem Ints.grown_ne {w w' : World} {B g n : Nat} {A : Option Addr} {l : List Int} (hr : Ints w B A n l) (h : w.grownBy w' (some g)) (hB : B ≤ w.heap.size) (hne : 0 < n → ∀ b off, A = some ⟨b, off, none⟩ → b ≠ g) : Ints w' B A n l := by
  refine ⟨hr.1, fun h0 h1 => ?_⟩
  obtain ⟨b, off, e, hb, hc⟩ := hr.2 h0 h1
  refine ⟨b, off, e, hb, fun j u hu => ?_⟩
  rw [← hc j u hu]
  have := h.block b (by omega) (fun e2 => hne h0 b off e (by injection e2))
  simp [World.cell?, this]

/-- A deed that tells a race. -/
def tellH (m : Lt) (r : Int) : DdH := ⟨2, ofD r 3, 7, m.t, m.e, none⟩
theorem Dds.new1 (w : World) (g : Nat) (hg : g = w.heap.size) (x : DdH) (e : TypeId) : Dds (w.alloc (.cells #[.int .i8 x.k, .int .i64 x.a, .int .i8 x.lk, .int .i64 0, .int .i64 0, .int .i64 0, .string x.text, .int .i64 x.e, .int .i8 0, .int .u16 0, .int .u16 0, .int .u16 0, .int .u16 0, .int .u16 0, .int .u16 0, .int .u16 0, .int .u16 0, .int .i64 0, .pointer x.go] e)) (g + 1) (some ⟨g, 0, none⟩) 1 [x] := Recs.new_at encDd_len w g hg [x] 1 rfl _ rfl e
theorem Dds.new2 (w : World) (g : Nat) (hg : g = w.heap.size) (x y : DdH) (e : TypeId) : Dds (w.alloc (.cells #[.int .i8 x.k, .int .i64 x.a, .int .i8 x.lk, .int .i64 0, .int .i64 0, .int .i64 0, .string x.text, .int .i64 x.e, .int .i8 0, .int .u16 0, .int .u16 0, .int .u16 0, .int .u16 0, .int .u16 0, .int .u16 0, .int .u16 0, .int .u16 0, .int .i64 0, .pointer x.go, .int .i8 y.k, .int .i64 y.a, .int .i8 y.lk, .int .i64 0, .int .i64 0, .int .i64 0, .string y.text, .int .i64 y.e, .int .i8 0, .int .u16 0, .int .u16 0, .int .u16 0, .int .u16 0, .int .u16 0, .int .u16 0, .int .u16 0, .int .u16 0, .int .i64 0, .pointer y.go] e)) (g + 1) (some ⟨g, 0, none⟩) 2 [x, y] := Recs.new_at encDd_len w g hg [x, y] 2 rfl _ rfl e
def lt7 (m : Lt) : Lt := ⟨7, 0, 0, 0, m.t, m.e⟩
theorem grown_own {w w1 w2 : World} {g : Nat} {row : Option Nat} (h1 : w.grownBy w1 (some g)) (h2 : w1.grownBy w2 row) (hr : ∀ q, row = some q → w.heap.size ≤ q) : w.grownBy w2 (some g) := by
  refine ⟨h2.os.trans h1.os, h2.tape.trans h1.tape, h2.output.trans h1.output, Nat.le_trans h1.size h2.size, fun q hq hne => ?_⟩
  exact (h2.block q (Nat.lt_of_lt_of_le hq h1.size) (fun e => by have := hr q e.symm; omega)).trans (h1.block q hq hne)
def TellRel (w : World) (g : Nat) (h : NmH) (ck nx : Int) (m : Lt) (n : Nat) (L : List Int) (k : Nat) (D : Option Addr) (dc : Nat) (wr : World) : Prop :=
  Kp wr g h ck nx D k dc ∧ OwDd wr (w.heap.size + 1) D k dc ((L.take k).map (tellH m)) ∧ LtAt wr w.heap.size (lt7 m) ∧ w.grownBy wr (some g) ∧ w.heap.size + 1 ≤ wr.heap.size
theorem tell_step {w wA w3 : World} {g : Nat} {h : NmH} {ck nx : Int} {m : Lt} {n : Nat} {L : List Int} {k : Nat} {D A3 : Option Addr} {dc c3 : Nat} {r : Int} {ds : List DdH} (lg : g < w.heap.size)
    (hK3 : Kp w3 g h ck nx D k dc) (hO : OwDd wA (w.heap.size + 1) D k dc ds) (hM : LtAt wA w.heap.size (lt7 m)) (hG : w.grownBy wA (some g)) (hz : w.heap.size + 1 ≤ wA.heap.size)
    (ho3 : OwDd w3 (w.heap.size + 1) A3 (k + 1) c3 (ds ++ [tellH m r])) (hg3 : wA.grownBy w3 (rowOf D dc)) (hT : (L.take (k + 1)).map (tellH m) = ds ++ [tellH m r]) :
    TellRel w g h ck nx m n L (k + 1) A3 c3 (w3.setCell ⟨g, 15, none⟩ (.slice A3 (k + 1) c3)) := by
  have hrow : ∀ q, rowOf D dc = some q → w.heap.size + 1 ≤ q := fun q hq => (hO.2.row q hq).1
  refine ⟨hK3.setD, ?_, ?_, ?_, ?_⟩
  · rw [hT]
    exact ⟨ho3.1, ho3.2.set (p := ⟨g, 15, none⟩) (hK3.ne ho3.2 (by decide)) _⟩
  · refine LtAt.block (w := wA) hM ?_
    rw [Below.heap_setCell _ _ _ _ (show w.heap.size ≠ g by omega)]
    exact hg3.block _ hz (fun e => by have := hrow _ e.symm; omega)
  · exact grown_set (grown_own hG hg3 (fun q hq => by have := hrow q hq; omega)) _ rfl rfl _
  · have := hg3.size
    simp [World.setCell]
    omega
set_option maxRecDepth 100000 in
set_option maxHeartbeats 4000000 in
theorem tells_any (g B : Nat) (h : NmH) (ck nx : Int) (m : Lt) (A : Option Addr) (n c : Nat) (L : List Int) (w : World) (hk : Kp w g h ck nx none 0 0) (hr : Ints w B A n L) (hB : B ≤ w.heap.size) (hne : 0 < n → ∀ b off, A = some ⟨b, off, none⟩ → b ≠ g) (hn : n ≤ 100000) :
    Calls Try.prog 44 #[.pointer (some ⟨g, 0, none⟩), .agg #[.int .i8 m.k, .int .i64 m.f, .int .i64 m.n, .int .i64 m.s, .string m.t, .int .i64 m.e], .slice A n c] w fun e w' => ∃ D dc, e = .returned (.tuple #[]) ∧ Kp w' g h ck nx D n dc ∧ OwDd w' (w.heap.size + 1) D n dc (L.map (tellH m)) ∧ w.grownBy w' (some g) := by
  have HL := Lib.hid hr.len
  have lg := hk.lt
  have hk0 := hk.next (Below.new_ w (.cells #[.int .i8 (lt7 m).k, .int .i64 (lt7 m).f, .int .i64 (lt7 m).n, .int .i64 (lt7 m).s, .string (lt7 m).t, .int .i64 (lt7 m).e] 40))
  have hm0 := LtAt.new w (lt7 m)
  have hb0 := grown_below (g := g) (Below.new_ w (.cells #[.int .i8 (lt7 m).k, .int .i64 (lt7 m).f, .int .i64 (lt7 m).n, .int .i64 (lt7 m).s, .string (lt7 m).t, .int .i64 (lt7 m).e] 40))
  have hz0 : w.heap.size + 1 ≤ (w.alloc (.cells #[.int .i8 (lt7 m).k, .int .i64 (lt7 m).f, .int .i64 (lt7 m).n, .int .i64 (lt7 m).s, .string (lt7 m).t, .int .i64 (lt7 m).e] 40)).heap.size := by simp
  go_enter Try.func44, Try.ntmps44
  go_wp2_with fail
  go_loopw [15] (fun s15 wr => ∃ (k : Nat) (D : Option Addr) (dc : Nat), k ≤ n ∧ s15 = .int .i64 k ∧ Kp wr g h ck nx D k dc ∧ OwDd wr (w.heap.size + 1) D k dc ((L.take k).map (tellH m)) ∧ LtAt wr w.heap.size (lt7 m) ∧ w.grownBy wr (some g) ∧ w.heap.size + 1 ≤ wr.heap.size) (fun s15 _ => n - (intOf s15).toNat)
  case atStart => exact ⟨0, none, 0, Nat.zero_le _, rfl, hk0, OwR.nil_ _ _ _ _, hm0, hb0, hz0⟩
  case round =>
    clear hk0 hm0 hb0 hz0
    obtain ⟨k, D, dc, hkn, rfl, hK, hO, hM, hG, hz⟩ := hrel
    by_cases hlt : k < n
    · obtain ⟨b, off, r, rfl, hbb, hx, hc⟩ := Ints.at_ (hr.grown_ne hG hB hne) hlt
      have hTS : Hid ((L.take (k + 1)).map (tellH m) = (L.take k).map (tellH m) ++ [tellH m r]) := by
        show _ = _
        rw [take_succ_of hx.out, List.map_append]; rfl
      obtain ⟨z0, z10, z11, z12, z13, z14, z15⟩ := hK.cells
      obtain ⟨f10, f11, f12, f15⟩ := hK.free
      obtain ⟨m0, m1, m2, m3, m4, m5⟩ := hM.cells
      have lk := hK.lt
      simp only [lt7] at m0 m1 m2 m3 m4 m5
      have hbA := Below.new_ wr (.cells #[.int .i8 (tellH m r).k, .int .i64 (tellH m r).a, .int .i8 (tellH m r).lk, .int .i64 0, .int .i64 0, .int .i64 0, .string (tellH m r).text, .int .i64 (tellH m r).e, .int .i8 0, .int .u16 0, .int .u16 0, .int .u16 0, .int .u16 0, .int .u16 0, .int .u16 0, .int .u16 0, .int .u16 0, .int .i64 0, .pointer (tellH m r).go] 50)
      have hKA := hK.next hbA
      have hOA := OwR.below hO hbA
      have hMA := hM.below hbA hM.lt
      have hdA := Dds.new1 wr _ rfl (tellH m r) 50
      have hGA := grown_trans hG (grown_below (g := g) hbA)
      go_upto_region 5 with fail
      have hzA : w.heap.size + 1 ≤ (wr.alloc (.cells #[.int .i8 (tellH m r).k, .int .i64 (tellH m r).a, .int .i8 (tellH m r).lk, .int .i64 0, .int .i64 0, .int .i64 0, .string (tellH m r).text, .int .i64 (tellH m r).e, .int .i8 0, .int .u16 0, .int .u16 0, .int .u16 0, .int .u16 0, .int .u16 0, .int .u16 0, .int .u16 0, .int .u16 0, .int .i64 0, .pointer (tellH m r).go] 50)).heap.size := by simp; omega
      have hMr := Lib.hid hM
      clear hc hr hne hM
      go_region_law ((first | (refine step_appDd (by rfl) (.tmp 23) (.tmp 28) (by first | (go_simp; done) | rfl) (w.heap.size + 1) D k dc _ (by first | (go_simp; done) | rfl) hOA.drew (wr.heap.size + 1) (some ⟨wr.heap.size, 0, none⟩) 1 1 [tellH m r] (by first | (go_simp; done) | rfl) hdA.drew (by omega) hzA ?_; intro A3 c3 w3 ho3 hg3 hr3; have h3 : Kp w3 g h ck nx D k dc := (hg3.block g hKA.lt (fun e => (hKA.ne hOA.2 (by decide)) g e.symm rfl)).trans hKA; obtain ⟨k0, k10, k11, k12, k13, k14, k15⟩ := h3.cells; obtain ⟨p10, p11, p12, p15⟩ := h3.free) | (go_simp; go_at_call 34; refine (DOf_any _ _ _ (by omega) (by omega)).mono ?_; rintro e w9 ⟨rfl, rfl⟩)))
      all_goals
        have hR := tell_step (n := n) lg h3 hOA.drew (LtAt.block hMA rfl) (grown_trans hGA ⟨rfl, rfl, rfl, Nat.le_refl _, fun _ _ _ => rfl⟩) hzA ho3 hg3 hTS.out
        have HR := Lib.hid hR
        clear hR k0 k10 k11 k12 k13 k14 k15 p10 p11 p12 p15 z0 z10 z11 z12 z13 z14 z15 f10 f11 f12 f15 m0 m1 m2 m3 m4 m5 hKA hOA hMA hGA hdA hzA ho3 hg3 hr3
        go_wp2_with fail
        go_roundw
        case rel => exact ⟨k + 1, A3, c3, by omega, by go_num, HR.out⟩
        case measure => simp [intOf]; omega
    · obtain rfl : k = n := by omega
      have hT : L.take k = L := List.take_of_length_le (by rw [HL.out]; omega)
      rw [hT] at hO
      go_wp2_with fail
      go_end0
      exact ⟨D, dc, rfl, hK, hO, hG⟩
end Go.Proofs.Ytfahmfaakjnpcaa
