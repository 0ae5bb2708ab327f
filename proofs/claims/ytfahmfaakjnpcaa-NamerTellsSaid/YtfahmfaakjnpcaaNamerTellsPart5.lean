/-
  The keeper of names (namer.keeper) in memory; what its tells and find compute. Conditions: bounds on lengths are premises.
  append onto a full slice; append within a row that the call owns; clear of one element; slices.Delete of one element, for records of several cells. Conditions: lengths within bounds, as each states.
  What the keeper's find, slices.IndexFunc, Clip, Delete at lookups in flight compute. Conditions: rows of at most 100000; the test's calls are premises.
-/
import Derived.Test.YtfahmfaakjnpcaaNamerTellsPart4
import Derived.RegionTactic
import Derived.Test.YtfahmfaakjnpcaaNamerTellsPart1
import Derived.Test.YtfahmfaakjnpcaaNamerTellsPart3
namespace Go.Proofs.Ytfahmfaakjnpcaa
set_option linter.unusedVariables false
set_option linter.unusedSimpArgs false
open Go.RowKit Go.Shelf

/-- A letter: kind, from, number, socket, text, error. -/
structure Lt where
  k : Int
  f : Int
  n : Int
  s : Int
  t : ByteArray
  e : Int
abbrev valLt (m : Lt) : Value := .agg #[.int .i8 m.k, .int .i64 m.f, .int .i64 m.n, .int .i64 m.s, .string m.t, .int .i64 m.e]
def LtAt (w : World) (g : Nat) (m : Lt) : Prop := w.heap[g]? = some (.cells #[.int .i8 m.k, .int .i64 m.f, .int .i64 m.n, .int .i64 m.s, .string m.t, .int .i64 m.e] 40 (0, 0))
theorem LtAt.lt {w : World} {g : Nat} {m : Lt} (h : LtAt w g m) : g < w.heap.size := (Array.getElem?_eq_some_iff.1 h).1
theorem LtAt.new (w : World) (m : Lt) : LtAt (w.alloc (.cells #[.int .i8 m.k, .int .i64 m.f, .int .i64 m.n, .int .i64 m.s, .string m.t, .int .i64 m.e] 40)) w.heap.size m := heap_alloc_new w _
theorem LtAt.cells {w : World} {g : Nat} {m : Lt} (h : LtAt w g m) : w.cell? ⟨g, 0, none⟩ = some (.int .i8 m.k) ∧ w.cell? ⟨g, 1, none⟩ = some (.int .i64 m.f) ∧ w.cell? ⟨g, 2, none⟩ = some (.int .i64 m.n) ∧ w.cell? ⟨g, 3, none⟩ = some (.int .i64 m.s) ∧ w.cell? ⟨g, 4, none⟩ = some (.string m.t) ∧ w.cell? ⟨g, 5, none⟩ = some (.int .i64 m.e) := by
  unfold LtAt at h
  exact ⟨by simp [World.cell?, h], by simp [World.cell?, h], by simp [World.cell?, h], by simp [World.cell?, h], by simp [World.cell?, h], by simp [World.cell?, h]⟩
theorem LtAt.block {w w' : World} {g : Nat} {m : Lt} (h : LtAt w g m) (hb : w'.heap[g]? = w.heap[g]?) : LtAt w' g m := hb.trans h
theorem LtAt.below {w w' : World} {g B : Nat} {m : Lt} (h : LtAt w g m) (hb : Below B w w') (hg : g < B) : LtAt w' g m := (hb.block g hg).trans h
theorem LtAt.grown {w w' : World} {g q : Nat} {m : Lt} (h : LtAt w g m) (hg : w.grownBy w' (some q)) (hne : g ≠ q) : LtAt w' g m := (hg.block g h.lt (fun e => hne (by injection e))).trans h

/-- The keeper at block g: the namer h, the clock, the next number, its deeds. -/
def Kp (w : World) (g : Nat) (h : NmH) (ck nx : Int) (D : Option Addr) (dn dc : Nat) : Prop := w.heap[g]? = some (.cells #[.int .i64 h.id, .int .i64 h.cf.1, .int .i64 h.cf.2.1, .int .i64 h.cf.2.2.1, .int .i64 h.cf.2.2.2.1, .int .i64 h.cf.2.2.2.2.1, .int .i64 h.cf.2.2.2.2.2.1, .int .i64 h.cf.2.2.2.2.2.2.1, .int .i64 h.cf.2.2.2.2.2.2.2.1, .int .i64 h.cf.2.2.2.2.2.2.2.2, .slice h.kA h.kn h.kc, .slice h.fA h.fn h.fc, .bool h.over, .int .i64 ck, .int .i64 nx, .slice D dn dc] 92 (0, 0))
section
variable {w w' : World} {g B : Nat} {h : NmH} {ck nx : Int} {D : Option Addr} {dn dc : Nat}
theorem Kp.lt (hk : Kp w g h ck nx D dn dc) : g < w.heap.size := (Array.getElem?_eq_some_iff.1 hk).1
theorem Kp.block (hk : Kp w g h ck nx D dn dc) (hb : w'.heap[g]? = w.heap[g]?) : Kp w' g h ck nx D dn dc := hb.trans hk
theorem Kp.below (hk : Kp w g h ck nx D dn dc) (hb : Below B w w') (hg : g < B) : Kp w' g h ck nx D dn dc := (hb.block g hg).trans hk
theorem Kp.next (hk : Kp w g h ck nx D dn dc) (hb : Below w.heap.size w w') : Kp w' g h ck nx D dn dc := hk.below hb hk.lt
theorem Kp.cells (hk : Kp w g h ck nx D dn dc) : w.cell? ⟨g, 0, none⟩ = some (.int .i64 h.id) ∧ w.cell? ⟨g, 10, none⟩ = some (.slice h.kA h.kn h.kc) ∧ w.cell? ⟨g, 11, none⟩ = some (.slice h.fA h.fn h.fc) ∧ w.cell? ⟨g, 12, none⟩ = some (.bool h.over) ∧
    w.cell? ⟨g, 13, none⟩ = some (.int .i64 ck) ∧ w.cell? ⟨g, 14, none⟩ = some (.int .i64 nx) ∧ w.cell? ⟨g, 15, none⟩ = some (.slice D dn dc) := by
  unfold Kp at hk
  exact ⟨by simp [World.cell?, hk], by simp [World.cell?, hk], by simp [World.cell?, hk], by simp [World.cell?, hk], by simp [World.cell?, hk], by simp [World.cell?, hk], by simp [World.cell?, hk]⟩
theorem Kp.conf (hk : Kp w g h ck nx D dn dc) : w.cell? ⟨g, 1, none⟩ = some (.int .i64 h.cf.1) ∧ w.cell? ⟨g, 2, none⟩ = some (.int .i64 h.cf.2.1) ∧ w.cell? ⟨g, 3, none⟩ = some (.int .i64 h.cf.2.2.1) ∧ w.cell? ⟨g, 4, none⟩ = some (.int .i64 h.cf.2.2.2.1) ∧ w.cell? ⟨g, 5, none⟩ = some (.int .i64 h.cf.2.2.2.2.1) ∧ w.cell? ⟨g, 6, none⟩ = some (.int .i64 h.cf.2.2.2.2.2.1) ∧ w.cell? ⟨g, 7, none⟩ = some (.int .i64 h.cf.2.2.2.2.2.2.1) ∧ w.cell? ⟨g, 8, none⟩ = some (.int .i64 h.cf.2.2.2.2.2.2.2.1) ∧ w.cell? ⟨g, 9, none⟩ = some (.int .i64 h.cf.2.2.2.2.2.2.2.2) := by
  unfold Kp at hk
  exact ⟨by simp [World.cell?, hk], by simp [World.cell?, hk], by simp [World.cell?, hk], by simp [World.cell?, hk], by simp [World.cell?, hk], by simp [World.cell?, hk], by simp [World.cell?, hk], by simp [World.cell?, hk], by simp [World.cell?, hk]⟩
theorem Kp.free (hk : Kp w g h ck nx D dn dc) : w.frozen? ⟨g, 10, none⟩ = false ∧ w.frozen? ⟨g, 11, none⟩ = false ∧ w.frozen? ⟨g, 12, none⟩ = false ∧ w.frozen? ⟨g, 15, none⟩ = false := by
  unfold Kp at hk
  exact ⟨by simp [World.frozen?, hk], by simp [World.frozen?, hk], by simp [World.frozen?, hk], by simp [World.frozen?, hk]⟩
theorem Kp.setD (hk : Kp w g h ck nx D dn dc) {D' : Option Addr} {dn' dc' : Nat} : Kp (w.setCell ⟨g, 15, none⟩ (.slice D' dn' dc')) g h ck nx D' dn' dc' := by unfold Kp at hk ⊢; simp [World.setCell, Array.getElem?_modify, hk]
theorem Kp.setO (hk : Kp w g h ck nx D dn dc) (b : Bool) : Kp (w.setCell ⟨g, 12, none⟩ (.bool b)) g { h with over := b } ck nx D dn dc := by unfold Kp at hk ⊢; simp [World.setCell, Array.getElem?_modify, hk]
theorem Kp.setF (hk : Kp w g h ck nx D dn dc) {A' : Option Addr} {n' c' : Nat} : Kp (w.setCell ⟨g, 11, none⟩ (.slice A' n' c')) g { h with fA := A', fn := n', fc := c' } ck nx D dn dc := by unfold Kp at hk ⊢; simp [World.setCell, Array.getElem?_modify, hk]
theorem Kp.setK (hk : Kp w g h ck nx D dn dc) {A' : Option Addr} {n' c' : Nat} : Kp (w.setCell ⟨g, 10, none⟩ (.slice A' n' c')) g { h with kA := A', kn := n', kc := c' } ck nx D dn dc := by unfold Kp at hk ⊢; simp [World.setCell, Array.getElem?_modify, hk]
theorem Kp.ne {base k n c : Nat} {e : TypeId} {A : Option Addr} {xs : List Value} (hk : Kp w g h ck nx D dn dc) (ho : Ow w base e k A n c xs) (he : e ≠ 92) : ∀ q, rowOf A c = some q → q ≠ g := by
  rintro q hq rfl
  rcases ho.2.2.2 with h0 | ⟨g', cur, rfl, _, hh, _⟩
  · simp [rowOf, h0] at hq
  · unfold rowOf at hq
    split at hq
    · cases hq
    · simp at hq
      subst hq
      unfold Kp at hk
      rw [hk] at hh
      injection hh with hh
      injection hh with h1 h2 h3
      exact he h2.symm
end
theorem grown_set {w w' : World} {row : Option Nat} {g : Nat} (h : w.grownBy w' row) (p : Addr) (hp : p.block = g) (hr : row = some g) (u : Value) : w.grownBy (w'.setCell p u) (some g) := by
  subst hr hp
  exact grown_trans h (grown_setCell w' p u)
theorem grown_below {w w' : World} {g : Nat} (h : Below w.heap.size w w') : w.grownBy w' (some g) := ⟨h.os, h.tape, h.output, h.size, fun q hq _ => h.block q hq⟩
theorem below_grown {w w' : World} {g B : Nat} (h : w.grownBy w' (some g)) (hB : B ≤ g) (hg : g < w.heap.size) : Below B w w' :=
  (Below.refl B w).grown h (by omega) (fun k hk => by injection hk with hk; omega)
theorem Ints.grown_ne {w w' : World} {B g n : Nat} {A : Option Addr} {l : List Int} (hr : Ints w B A n l) (h : w.grownBy w' (some g)) (hB : B ≤ w.heap.size) (hne : 0 < n → ∀ b off, A = some ⟨b, off, none⟩ → b ≠ g) : Ints w' B A n l := by
  refine ⟨hr.1, fun h0 h1 => ?_⟩
  obtain ⟨b, off, e, hb, hc⟩ := hr.2 h0 h1
  refine ⟨b, off, e, hb, fun j u hu => ?_⟩
  rw [← hc j u hu]
  have := h.block b (by omega) (fun e2 => hne h0 b off e (by injection e2))
  simp [World.cell?, this]

/-- A deed that tells a race. -/
def tellH (m : Lt) (r : Int) : DdH := ⟨2, ofD r 3, 7, m.t, m.e, none⟩
theorem Dds.new1 (w : World) (g : Nat) (hg : g = w.heap.size) (x : DdH) (e : TypeId) : Dds (w.alloc (.cells #[.int .i8 x.k, .int .i64 x.a, .int .i8 x.lk, .int .i64 0, .int .i64 0, .int .i64 0, .string x.text, .int .i64 x.e, .int .i8 0, .int .u16 0, .int .u16 0, .int .u16 0, .int .u16 0, .int .u16 0, .int .u16 0, .int .u16 0, .int .u16 0, .int .i64 0, .pointer x.go] e)) (g + 1) (some ⟨g, 0, none⟩) 1 [x] := Recs.new_at encDd_len w g hg [x] 1 rfl _ rfl e
theorem Dds.new2 (w : World) (g : Nat) (hg : g = w.heap.size) (x y : DdH) (e : TypeId) : Dds (w.alloc (.cells #[.int .i8 x.k, .int .i64 x.a, .int .i8 x.lk, .int .i64 0, .int .i64 0, .int .i64 0, .string x.text, .int .i64 x.e, .int .i8 0, .int .u16 0, .int .u16 0, .int .u16 0, .int .u16 0, .int .u16 0, .int .u16 0, .int .u16 0, .int .u16 0, .int .i64 0, .pointer x.go, .int .i8 y.k, .int .i64 y.a, .int .i8 y.lk, .int .i64 0, .int .i64 0, .int .i64 0, .string y.text, .int .i64 y.e, .int .i8 0, .int .u16 0, .int .u16 0, .int .u16 0, .int .u16 0, .int .u16 0, .int .u16 0, .int .u16 0, .int .u16 0, .int .i64 0, .pointer y.go] e)) (g + 1) (some ⟨g, 0, none⟩) 2 [x, y] := Recs.new_at encDd_len w g hg [x, y] 2 rfl _ rfl e
def lt7 (m : Lt) : Lt := ⟨7, 0, 0, 0, m.t, m.e⟩
theorem grown_own {w w1 w2 : World} {g : Nat} {row : Option Nat} (h1 : w.grownBy w1 (some g)) (h2 : w1.grownBy w2 row) (hr : ∀ q, row = some q → w.heap.size ≤ q) : w.grownBy w2 (some g) := by
  refine ⟨h2.os.trans h1.os, h2.tape.trans h1.tape, h2.output.trans h1.output, Nat.le_trans h1.size h2.size, fun q hq hne => ?_⟩
  exact (h2.block q (Nat.lt_of_lt_of_le hq h1.size) (fun e => by have := hr q e.symm; omega)).trans (h1.block q hq hne)
def TellRel (w : World) (g : Nat) (h : NmH) (ck nx : Int) (m : Lt) (n : Nat) (L : List Int) (k : Nat) (D : Option Addr) (dc : Nat) (wr : World) : Prop :=
  Kp wr g h ck nx D k dc ∧ OwDd wr (w.heap.size + 1) D k dc ((L.take k).map (tellH m)) ∧ LtAt wr w.heap.size (lt7 m) ∧ w.grownBy wr (some g) ∧ w.heap.size + 1 ≤ wr.heap.size
theorem tell_step {w wA w3 : World} {g : Nat} {h : NmH} {ck nx : Int} {m : Lt} {n : Nat} {L : List Int} {k : Nat} {D A3 : Option Addr} {dc c3 : Nat} {r : Int} {ds : List DdH} (lg : g < w.heap.size)
    (hK3 : Kp w3 g h ck nx D k dc) (hO : OwDd wA (w.heap.size + 1) D k dc ds) (hM : LtAt wA w.heap.size (lt7 m)) (hG : w.grownBy wA (some g)) (hz : w.heap.size + 1 ≤ wA.heap.size)
    (ho3 : OwDd w3 (w.heap.size + 1) A3 (k + 1) c3 (ds ++ [tellH m r])) (hg3 : wA.grownBy w3 (rowOf D dc)) (hT : (L.take (k + 1)).map (tellH m) = ds ++ [tellH m r]) :
    TellRel w g h ck nx m n L (k + 1) A3 c3 (w3.setCell ⟨g, 15, none⟩ (.slice A3 (k + 1) c3)) := by
  have hrow : ∀ q, rowOf D dc = some q → w.heap.size + 1 ≤ q := fun q hq => (hO.2.row q hq).1
  refine ⟨hK3.setD, ?_, ?_, ?_, ?_⟩
  · rw [hT]
    exact ⟨ho3.1, ho3.2.set (p := ⟨g, 15, none⟩) (hK3.ne ho3.2 (by decide)) _⟩
  · refine LtAt.block (w := wA) hM ?_
    rw [Below.heap_setCell _ _ _ _ (show w.heap.size ≠ g by omega)]
    exact hg3.block _ hz (fun e => by have := hrow _ e.symm; omega)
  · exact grown_set (grown_own hG hg3 (fun q hq => by have := hrow q hq; omega)) _ rfl rfl _
  · have := hg3.size
    simp [World.setCell]
    omega
set_option maxRecDepth 100000 in
set_option maxHeartbeats 4000000 in
theorem tells_any (g B : Nat) (h : NmH) (ck nx : Int) (m : Lt) (A : Option Addr) (n c : Nat) (L : List Int) (w : World) (hk : Kp w g h ck nx none 0 0) (hr : Ints w B A n L) (hB : B ≤ w.heap.size) (hne : 0 < n → ∀ b off, A = some ⟨b, off, none⟩ → b ≠ g) (hn : n ≤ 100000) :
    Calls Try.prog 44 #[.pointer (some ⟨g, 0, none⟩), .agg #[.int .i8 m.k, .int .i64 m.f, .int .i64 m.n, .int .i64 m.s, .string m.t, .int .i64 m.e], .slice A n c] w fun e w' => ∃ D dc, e = .returned (.tuple #[]) ∧ Kp w' g h ck nx D n dc ∧ OwDd w' (w.heap.size + 1) D n dc (L.map (tellH m)) ∧ w.grownBy w' (some g) := by
  have HL := Lib.hid hr.len
  have lg := hk.lt
  have hk0 := hk.next (Below.new_ w (.cells #[.int .i8 (lt7 m).k, .int .i64 (lt7 m).f, .int .i64 (lt7 m).n, .int .i64 (lt7 m).s, .string (lt7 m).t, .int .i64 (lt7 m).e] 40))
  have hm0 := LtAt.new w (lt7 m)
  have hb0 := grown_below (g := g) (Below.new_ w (.cells #[.int .i8 (lt7 m).k, .int .i64 (lt7 m).f, .int .i64 (lt7 m).n, .int .i64 (lt7 m).s, .string (lt7 m).t, .int .i64 (lt7 m).e] 40))
  have hz0 : w.heap.size + 1 ≤ (w.alloc (.cells #[.int .i8 (lt7 m).k, .int .i64 (lt7 m).f, .int .i64 (lt7 m).n, .int .i64 (lt7 m).s, .string (lt7 m).t, .int .i64 (lt7 m).e] 40)).heap.size := by simp
  go_enter Try.func44, Try.ntmps44
  go_wp2_with fail
  go_loopw [15] (fun s15 wr => ∃ (k : Nat) (D : Option Addr) (dc : Nat), k ≤ n ∧ s15 = .int .i64 k ∧ Kp wr g h ck nx D k dc ∧ OwDd wr (w.heap.size + 1) D k dc ((L.take k).map (tellH m)) ∧ LtAt wr w.heap.size (lt7 m) ∧ w.grownBy wr (some g) ∧ w.heap.size + 1 ≤ wr.heap.size) (fun s15 _ => n - (intOf s15).toNat)
  case atStart => exact ⟨0, none, 0, Nat.zero_le _, rfl, hk0, OwR.nil_ _ _ _ _, hm0, hb0, hz0⟩
  case round =>
    clear hk0 hm0 hb0 hz0
    obtain ⟨k, D, dc, hkn, rfl, hK, hO, hM, hG, hz⟩ := hrel
    by_cases hlt : k < n
    · obtain ⟨b, off, r, rfl, hbb, hx, hc⟩ := Ints.at_ (hr.grown_ne hG hB hne) hlt
      have hTS : Hid ((L.take (k + 1)).map (tellH m) = (L.take k).map (tellH m) ++ [tellH m r]) := by
        show _ = _
        rw [take_succ_of hx.out, List.map_append]; rfl
      obtain ⟨z0, z10, z11, z12, z13, z14, z15⟩ := hK.cells
      obtain ⟨f10, f11, f12, f15⟩ := hK.free
      obtain ⟨m0, m1, m2, m3, m4, m5⟩ := hM.cells
      have lk := hK.lt
      simp only [lt7] at m0 m1 m2 m3 m4 m5
      have hbA := Below.new_ wr (.cells #[.int .i8 (tellH m r).k, .int .i64 (tellH m r).a, .int .i8 (tellH m r).lk, .int .i64 0, .int .i64 0, .int .i64 0, .string (tellH m r).text, .int .i64 (tellH m r).e, .int .i8 0, .int .u16 0, .int .u16 0, .int .u16 0, .int .u16 0, .int .u16 0, .int .u16 0, .int .u16 0, .int .u16 0, .int .i64 0, .pointer (tellH m r).go] 50)
      have hKA := hK.next hbA
      have hOA := OwR.below hO hbA
      have hMA := hM.below hbA hM.lt
      have hdA := Dds.new1 wr _ rfl (tellH m r) 50
      have hGA := grown_trans hG (grown_below (g := g) hbA)
      go_upto_region 5 with fail
      have hzA : w.heap.size + 1 ≤ (wr.alloc (.cells #[.int .i8 (tellH m r).k, .int .i64 (tellH m r).a, .int .i8 (tellH m r).lk, .int .i64 0, .int .i64 0, .int .i64 0, .string (tellH m r).text, .int .i64 (tellH m r).e, .int .i8 0, .int .u16 0, .int .u16 0, .int .u16 0, .int .u16 0, .int .u16 0, .int .u16 0, .int .u16 0, .int .u16 0, .int .i64 0, .pointer (tellH m r).go] 50)).heap.size := by simp; omega
      have hMr := Lib.hid hM
      clear hc hr hne hM
      go_region_law ((first | (refine step_appDd (by rfl) (.tmp 23) (.tmp 28) (by first | (go_simp; done) | rfl) (w.heap.size + 1) D k dc _ (by first | (go_simp; done) | rfl) hOA.drew (wr.heap.size + 1) (some ⟨wr.heap.size, 0, none⟩) 1 1 [tellH m r] (by first | (go_simp; done) | rfl) hdA.drew (by omega) hzA ?_; intro A3 c3 w3 ho3 hg3 hr3; have h3 : Kp w3 g h ck nx D k dc := (hg3.block g hKA.lt (fun e => (hKA.ne hOA.2 (by decide)) g e.symm rfl)).trans hKA; obtain ⟨k0, k10, k11, k12, k13, k14, k15⟩ := h3.cells; obtain ⟨p10, p11, p12, p15⟩ := h3.free) | (go_simp; go_at_call 34; refine (DOf_any _ _ _ (by omega) (by omega)).mono ?_; rintro e w9 ⟨rfl, rfl⟩)))
      all_goals
        have hR := tell_step (n := n) lg h3 hOA.drew (LtAt.block hMA rfl) (grown_trans hGA ⟨rfl, rfl, rfl, Nat.le_refl _, fun _ _ _ => rfl⟩) hzA ho3 hg3 hTS.out
        have HR := Lib.hid hR
        clear hR k0 k10 k11 k12 k13 k14 k15 p10 p11 p12 p15 z0 z10 z11 z12 z13 z14 z15 f10 f11 f12 f15 m0 m1 m2 m3 m4 m5 hKA hOA hMA hGA hdA hzA ho3 hg3 hr3
        go_wp2_with fail
        go_roundw
        case rel => exact ⟨k + 1, A3, c3, by omega, by go_num, HR.out⟩
        case measure => simp [intOf]; omega
    · obtain rfl : k = n := by omega
      have hT : L.take k = L := List.take_of_length_le (by rw [HL.out]; omega)
      rw [hT] at hO
      go_wp2_with fail
      go_end0
      exact ⟨D, dc, rfl, hK, hO, hG⟩
end Go.Proofs.Ytfahmfaakjnpcaa
namespace Go.Proofs.Ytfahmfaakjnpcaa
set_option linter.unusedVariables false
set_option linter.unusedSimpArgs false
open Go.RowKit

/-- append of some elements onto a slice without room to spare, wherever it lies: new memory. -/
theorem run_append_full {P : Program} (w : World) (base : Nat) (t ty e : TypeId) (i : TypeInfo) (z : Value) (k bytes : Nat) (ht : P.underlying t = some (.slice e)) (hi : P.info? e = some i) (hz : i.zero = some z)
    (hk : i.size = k) (hby : i.bytes = bytes) (hzs : z.cells.size = k) (hk0 : 0 < k)
    (A : Option Addr) (n B : Nat) (xs : List Value) (hx : Sl w B k A n xs)
    (B2 : Nat) (A2 : Option Addr) (m c2 : Nat) (news : List Value) (hs : Sl w B2 k A2 m news) (h1 : ∀ u ∈ news, u.oneCell' = true) (hm : 0 < m)
    (h63 : n + m ≤ maxLen) (hbytes : (n + m) * bytes ≤ 140737488355328) (hbase : base ≤ w.heap.size) :
    ∃ A' c' w', (Builtin.append_ #[t, t] ty #[.slice A n n, .slice A2 m c2]).run P w = .ok (.slice A' (n + m) c') w' ∧ Ow w' base e k A' (n + m) c' (xs ++ news) ∧ w.grownBy w' none ∧ rowOf A' c' = some w.heap.size := by
  rcases Nat.eq_zero_or_pos n with rfl | hn
  · obtain rfl : xs = [] := List.eq_nil_of_length_eq_zero (by simpa using hx.1)
    obtain ⟨A', c', w', hr, ho, hg, hrow⟩ := run_append_Ow (P := P) w base t ty e i z k bytes ht hi hz hk hby hzs hk0 A 0 0 [] (Ow.nil_ w base e k A) B2 A2 m c2 news hs h1 h63 hbytes hbase
    refine ⟨A', c', w', hr, ho, by simpa [rowOf] using hg, ?_⟩
    rcases hrow with h | h
    · have hc : c' ≠ 0 := by have := ho.2.1; omega
      have : rowOf A 0 = none := by simp [rowOf]
      rw [this] at h
      rcases ho.2.2.2 with h0 | ⟨g, cur, rfl, _⟩
      · exact absurd h0 hc
      · simp [rowOf, hc] at h
    · exact h.1
  · obtain ⟨b, off, rfl, hb, hc⟩ := hx.2 hn hk0
    obtain ⟨b2, off2, rfl, hb2, hc2⟩ := hs.2 hm hk0
    have ad : ∀ (b off j : Nat), (⟨b, off, none⟩ : Addr).add j = ⟨b, off + j, none⟩ := fun b off j => add_plain b off j
    have hr := run_append_grow (P := P) w t ty e i z ht hi hz ⟨b, off, none⟩ n n xs (by rw [hx.1, hk]) (fun j v h => by rw [ad]; exact hc j v h) ⟨b2, off2, none⟩ m c2 news (by rw [hs.1, hk]) (fun j v h => by rw [ad]; exact hc2 j v h) (by omega) (by unfold maxLen at h63; omega) (by
      have := growslice_fits (need := n + m) (old := n) (bytes := bytes) (by omega) hbytes
      rw [hby]; exact this)
    have hge := grownCap_ge w (n + m) n e
    have hcm : grownCap w (n + m) n e ≤ maxLen := grownCap_le_maxLen w (n + m) n e h63
    refine ⟨_, _, _, hr, ⟨by rw [List.length_append, hx.1, hs.1, Nat.add_mul], hge, hcm, .inr ⟨w.heap.size, _, rfl, hbase, heap_alloc_new w.drew _, ?_, ?_⟩⟩, ⟨rfl, rfl, rfl, by simp, fun q hq _ => Below.heap_alloc w.drew _ q hq⟩, ?_⟩
    · simp only [Array.size_append, List.size_toArray, size_zeroCells, hzs, hx.1, hs.1, ← Nat.add_mul]
      congr 1
      omega
    · simp only [Array.toList_append]
      rw [List.take_left' (by rw [List.length_append, hx.1, hs.1, Nat.add_mul])]
    · have : grownCap w (n + m) n e ≠ 0 := by omega
      simp [rowOf, this]
theorem step_append_run {P : Program} {ops : Array Oper} {o : Oper} {a : Act} {w w' : World} {K : Act → World → Prop} {Q : Exit → Act → World → Prop} {E : Prop}
    (hg : o.guard = none) (s x : Operand) (t : TypeId) (ho : o.op = Op.call { callee := Callee.builtin Builtin.append, args := #[s, x], argTypes := #[t, t] })
    (vs vx v : Value) (hsv : a.eval s = vs) (hxv : a.eval x = vx) (hrun : (Builtin.append_ #[t, t] o.type #[vs, vx]).run P w = .ok v w') (h : K (a.put o.dst v) w') :
    if Region.wanted o (yielded ops a.tmps) = true then Oper.wp P o a w K Q else E := by
  have hw : Region.wanted o (yielded ops a.tmps) = true := by simp [Region.wanted, hg]
  rw [if_pos hw]
  unfold Oper.wp execOp
  simp only [ho, resolve, invoke, builtin, Sem.run_bind, Sem.run_pure, Result.andThen_ok, List.map_toArray, List.map_cons, List.map_nil, hsv, hxv, hrun]
  exact h
theorem wpList_append_run {P : Program} {ops : Array Oper} {rest : List Oper} {o : Oper} {a : Act} {w w' : World} {Q : Exit → Act → World → Prop} (hgd : o.guard = none) (s x : Operand) (t : TypeId)
    (ho : o.op = .call { callee := .builtin .append, args := #[s, x], argTypes := #[t, t] })
    (vs vx v : Value) (hsv : a.eval s = vs) (hxv : a.eval x = vx) (hrun : (Builtin.append_ #[t, t] o.type #[vs, vx]).run P w = .ok v w')
    (h : wpList P ops Q rest (a.put o.dst v) w') : wpList P ops Q (o :: rest) a w := by
  refine wpList_plain hgd fun K hK => ?_
  unfold Oper.wp execOp
  simp only [ho, resolve, invoke, builtin, Sem.run_bind, Sem.run_pure, Result.andThen_ok, List.map_toArray, List.map_cons, List.map_nil, hsv, hxv, hrun]
  exact hK _ _ h
theorem wpList_clear_run {P : Program} {ops : Array Oper} {rest : List Oper} {o : Oper} {a : Act} {w w' : World} {Q : Exit → Act → World → Prop} (hgd : o.guard = none) (s : Operand) (t : TypeId)
    (ho : o.op = .call { callee := .builtin .clear, args := #[s], argTypes := #[t] })
    (vs v : Value) (hsv : a.eval s = vs) (hrun : (Builtin.clear_ #[t] o.type #[vs]).run P w = .ok v w')
    (h : wpList P ops Q rest (a.put o.dst v) w') : wpList P ops Q (o :: rest) a w := by
  refine wpList_plain hgd fun K hK => ?_
  unfold Oper.wp execOp
  simp only [ho, resolve, invoke, builtin, Sem.run_bind, Sem.run_pure, Result.andThen_ok, List.map_toArray, List.map_cons, List.map_nil, hsv, hrun]
  exact hK _ _ h
/-- append within a row: what stands behind an element is laid over it. -/
theorem run_append_del {α : Type} {enc : α → List Value} {k : Nat} {P : Program} (hk : ∀ x, (enc x).length = k) (hk0 : 0 < k) (h1 : ∀ x u, u ∈ enc x → u.oneCell' = true) (w : World) (base : Nat) (t ty e : TypeId) (i : TypeInfo) (ht : P.underlying t = some (.slice e)) (hi : P.info? e = some i)
    (his : i.size = k) (g n c q : Nat) (l : List α) (ho : OwR enc k w base e (some ⟨g, 0, none⟩) n c l) (hq : q < n) (A2 : Option Addr) (hA2 : A2 = if c = q + 1 then some ⟨g, 0, none⟩ else some ⟨g, (q + 1) * k, none⟩) :
    ∃ w', (Builtin.append_ #[t, t] ty #[.slice (some ⟨g, 0, none⟩) q c, .slice A2 (n - (q + 1)) (c - (q + 1))]).run P w = .ok (.slice (some ⟨g, 0, none⟩) (q + (n - (q + 1))) c) w' ∧
      Hid (∃ cur', w'.heap[g]? = some (.cells cur' e (0, 0)) ∧ cur'.size = c * k ∧ cur'.toList.take ((n - 1) * k) = (l.eraseIdx q).flatMap enc) ∧ w.grownBy w' (some g) ∧ w'.heap.size = w.heap.size := by
  have hln := ho.1
  have hnc := ho.2.2.1
  rcases ho.2.2.2.2 with h0 | ⟨g', cur, e1, hb, hh, hcs, htk⟩
  · omega
  injection e1 with e1
  injection e1 with e1
  subst e1
  have hcur : cur.toList = l.flatMap enc ++ cur.toList.drop (n * k) := by rw [← htk, List.take_append_drop]
  have hP : ((l.take q).flatMap enc).length = q * k := by rw [flatMap_len hk, List.length_take]; congr 1; omega
  have hM : ((l.drop (q + 1)).flatMap enc).length = (n - (q + 1)) * k := by rw [flatMap_len hk, List.length_drop, hln]
  have her : (l.eraseIdx q).flatMap enc = (l.take q).flatMap enc ++ (l.drop (q + 1)).flatMap enc := by rw [List.eraseIdx_eq_take_drop_succ, List.flatMap_append]
  have hsq : l.flatMap enc = (l.take q).flatMap enc ++ (l.drop q).flatMap enc := by rw [← List.flatMap_append, List.take_append_drop]
  have hsp : l.flatMap enc = (l.take (q + 1)).flatMap enc ++ (l.drop (q + 1)).flatMap enc := by rw [← List.flatMap_append, List.take_append_drop]
  have hP1 : ((l.take (q + 1)).flatMap enc).length = (q + 1) * k := by rw [flatMap_len hk, List.length_take]; congr 1; omega
  have htake : cur.toList.take (q * k) = (l.take q).flatMap enc := by
    rw [hcur, hsq, List.append_assoc, List.take_left' hP]
  rcases Nat.eq_zero_or_pos (n - (q + 1)) with hm | hm
  · have hr := run_append_none (P := P) w t ty e i ht hi (some ⟨g, 0, none⟩) A2 q c (c - (q + 1)) (by omega) (by simp)
    refine ⟨w, by rw [hm]; simpa using hr, ⟨cur, hh, hcs, ?_⟩, ⟨rfl, rfl, rfl, Nat.le_refl _, fun _ _ _ => rfl⟩, rfl⟩
    rw [show n - 1 = q by omega, htake, her, List.drop_eq_nil_of_le (by omega)]
    simp
  · have hne : ¬ c = q + 1 := by omega
    rw [if_neg hne] at hA2
    subst hA2
    have hsrc : ∀ j u, ((l.drop (q + 1)).flatMap enc)[j]? = some u → w.cell? ((⟨g, (q + 1) * k, none⟩ : Addr).add j) = some u := by
      intro j u hj
      rw [add_plain, cell_of_row w g _ cur e (0, 0) hh, ← Array.getElem?_toList, hcur, hsp, List.append_assoc, List.getElem?_append_right (by omega), hP1, Nat.add_sub_cancel_left, List.getElem?_append_left (List.getElem?_eq_some_iff.1 hj).1]
      exact hj
    have hqn : q * k + (n - (q + 1)) * k = (n - 1) * k := by rw [← Nat.add_mul]; congr 1; omega
    have hle : (n - 1) * k ≤ c * k := Nat.mul_le_mul_right _ (by omega)
    have hr := run_append_room (P := P) w t ty e i ht hi g q c cur hh ⟨g, (q + 1) * k, none⟩ (n - (q + 1)) (c - (q + 1)) _ (by rw [hM, his]) hsrc (by
      intro u hu
      obtain ⟨x, _, hx⟩ := List.mem_flatMap.1 hu
      exact h1 x u hx) (by omega) (by rw [hM, his, hcs]; omega)
    rw [his] at hr
    refine ⟨_, hr, ⟨_, setRow_heap w g _ _ e _ hh, ?_, ?_⟩, grown_setRow _ _ _, size_setRow _ _ _⟩
    · simp only [List.size_toArray, List.length_append, List.length_take, List.length_drop, Array.length_toList, hcs, hM]
      rw [Nat.min_eq_left (by omega)]
      omega
    · rw [htake, her, List.take_left' (by rw [List.length_append, hP, hM]; omega)]
theorem run_clear_one {P : Program} (w : World) (t ty e : TypeId) (z : Value) (k g o c : Nat) (cur : Array Value) (ht : P.underlying t = some (.slice e)) (hv : ∀ w, (zeroValue e).run P w = .ok z w) (hzs : (Builtin.zeroCells z.cells 1).toList.length = k)
    (h1 : ∀ u ∈ (Builtin.zeroCells z.cells 1).toList, u.oneCell' = true) (hh : w.heap[g]? = some (.cells cur e (0, 0))) (hfit : o + k ≤ cur.size) :
    ∃ w', (Builtin.clear_ #[t] ty #[.slice (some ⟨g, o, none⟩) 1 c]).run P w = .ok (.tuple #[]) w' ∧ Hid (∃ cur', w'.heap[g]? = some (.cells cur' e (0, 0)) ∧ cur'.size = cur.size ∧ cur'.toList.take o = cur.toList.take o) ∧ w.grownBy w' (some g) ∧ w'.heap.size = w.heap.size := by
  have hst := run_storeCells_at P g o e (Builtin.zeroCells z.cells 1).toList 0 cur w hh (by rw [hzs]; simpa using hfit) h1
  simp only [Nat.add_zero] at hst
  have hrun : (Builtin.clear_ #[t] ty #[.slice (some ⟨g, o, none⟩) 1 c]).run P w = .ok (.tuple #[]) (w.setRow g (cur.toList.take o ++ (Builtin.zeroCells z.cells 1).toList ++ cur.toList.drop (o + (Builtin.zeroCells z.cells 1).toList.length)).toArray) := by
    simp [Builtin.clear_, run_underlying ht, hv, hst]
  obtain ⟨Z, hZ⟩ : ∃ Z, Z = (Builtin.zeroCells z.cells 1).toList := ⟨_, rfl⟩
  rw [← hZ] at hzs hrun
  refine ⟨_, hrun, ⟨_, setRow_heap w g _ _ e _ hh, ?_, ?_⟩, grown_setRow _ _ _, size_setRow _ _ _⟩
  · simp only [List.size_toArray, List.length_append, List.length_take, List.length_drop, Array.length_toList, hzs]
    omega
  · rw [List.append_assoc, List.take_left' (by simp; omega)]
end Go.Proofs.Ytfahmfaakjnpcaa
namespace Go.Proofs.Ytfahmfaakjnpcaa
set_option linter.unusedVariables false
set_option linter.unusedSimpArgs false
open Go.RowKit Go.Shelf

def idxL {α : Type} (l : List α) (p : α → Bool) : Int := match l.findIdx? p with | some i => (i : Int) | none => -1
theorem idxL_at {α : Type} {l : List α} {k : Nat} {x : α} {p : α → Bool} (hx : l[k]? = some x) (hp : p x = true) (hno : (l.take k).any p = false) : l.findIdx? p = some k := by
  rw [List.findIdx?_eq_some_iff_getElem]
  obtain ⟨hk, e⟩ := List.getElem?_eq_some_iff.1 hx
  refine ⟨hk, by rw [e]; exact hp, fun j hj => ?_⟩
  rw [List.any_eq_false] at hno
  exact hno _ (List.mem_of_getElem? (i := j) (by rw [List.getElem?_take, if_pos hj]; exact List.getElem?_eq_getElem _))
theorem idxL_none {α : Type} {l : List α} {p : α → Bool} (hno : l.any p = false) : l.findIdx? p = none := by
  rw [List.findIdx?_eq_none_iff]
  intro x hx
  rw [List.any_eq_false] at hno
  simpa using hno x hx
set_option maxHeartbeats 1600000 in
theorem IndexFuncFl_any (fid : FuncId) (eg : ∀ args w, (callFunc fid args).run Try.prog w = .ok (.enter fid args) w) (caps : Array Value) (p : FlH → Bool) (A : Option Addr) (n c B : Nat) (l : List FlH) (w : World) (hl : Fls w B A n l) (hB : B ≤ w.heap.size) (hn : n ≤ 100000)
    (hf : ∀ (x : FlH) (wx : World), x ∈ l → Below w.heap.size w wx → Calls Try.prog fid (#[valFl x] ++ caps) wx fun e w' => e = .returned (.bool (p x)) ∧ Below wx.heap.size wx w') :
    Calls Try.prog 53 #[.slice A n c, .func (.func fid) #[] caps] w fun e w' => e = .returned (.int .i64 (idxL l p)) ∧ Below w.heap.size w w' := by
  have HL := Lib.hid hl.len
  have HF := Lib.hid hf
  clear hf
  go_enter Try.func53, Try.ntmps53
  go_wp2_with fail
  go_loopw [8] (fun s8 wr => ∃ k : Nat, k ≤ n ∧ s8 = .int .i64 k ∧ Hid ((l.take k).any p = false) ∧ Below w.heap.size w wr) (fun s8 _ => n - (intOf s8).toNat)
  case atStart => exact ⟨0, Nat.zero_le _, rfl, by show _ = _; simp, Below.refl _ _⟩
  case round =>
    obtain ⟨k, hk, rfl, hno, hb⟩ := hrel
    by_cases hlt : k < n
    · obtain ⟨b, off, y, rfl, hbb, hy, hc0, hc1, hc2⟩ := Fls.cells (hl.below' hb hB) hlt
      have hcall := HF.out y _ (List.mem_of_getElem? hy.out) hb
      cases hp : p y
      · rw [hp] at hcall
        have hno2 : Hid ((l.take (k + 1)).any p = false) := by
          show _ = _
          rw [take_succ_of hy.out, List.any_append, hno.out]
          simp [hp]
        clear hp
        go_wp2_with (go_at_fn fid; refine hcall.mono ?_; rintro e w2 ⟨rfl, hb2⟩)
        go_roundw
        case rel => exact ⟨k + 1, by omega, by go_num, hno2, hb.trans (hb2.mono hb.size)⟩
        case measure => simp [intOf]; omega
      · rw [hp] at hcall
        have hfin : idxL l p = (k : Int) := by unfold idxL; rw [idxL_at hy.out hp hno.out]
        have HFIN := Lib.hid hfin
        clear hp hfin
        go_wp2_with (go_at_fn fid; refine hcall.mono ?_; rintro e w2 ⟨rfl, hb2⟩)
        go_ret
        exact ⟨ret_int HFIN.out.symm, hb.trans (hb2.mono hb.size)⟩
    · have hfin : idxL l p = -1 := by
        have := hno.out
        rw [List.take_of_length_le (by rw [HL.out]; omega)] at this
        unfold idxL
        rw [idxL_none this]
      have HFIN := Lib.hid hfin
      clear hfin
      go_wp2_with fail
      go_ret
      exact ⟨ret_int HFIN.out.symm, hb⟩
set_option maxHeartbeats 800000 in
theorem find_any (fid : FuncId) (eg : ∀ args w, (callFunc fid args).run Try.prog w = .ok (.enter fid args) w) (caps : Array Value) (p : FlH → Bool) (g B : Nat) (h : NmH) (ck nx : Int) (D : Option Addr) (dn dc : Nat) (l : List FlH) (w : World) (hk : Kp w g h ck nx D dn dc) (hl : Fls w B h.fA h.fn l) (hB : B ≤ w.heap.size) (hn : h.fn ≤ 100000)
    (hf : ∀ (x : FlH) (wx : World), x ∈ l → Below w.heap.size w wx → Calls Try.prog fid (#[valFl x] ++ caps) wx fun e w' => e = .returned (.bool (p x)) ∧ Below wx.heap.size wx w') :
    Calls Try.prog 29 #[.pointer (some ⟨g, 0, none⟩), .func (.func fid) #[] caps] w fun e w' => e = .returned (.int .i64 (idxL l p)) ∧ Below w.heap.size w w' := by
  obtain ⟨z0, z10, z11, z12, z13, z14, z15⟩ := hk.cells
  have HF := Lib.hid hf
  clear hf
  go_enter Try.func29, Try.ntmps29
  go_wp2_with fail
  refine (IndexFuncFl_any fid eg caps p _ _ _ B l _ hl hB hn HF.out).mono ?_
  rintro e w2 ⟨rfl, hb⟩
  go_wp2_with fail
  go_ret
  exact ⟨rfl, hb⟩
theorem eg_lookC : ∀ args w, (callFunc 45 args).run Try.prog w = .ok (.enter 45 args) w := enters_of Try.func45 (by kernel_rfl) rfl
theorem lookC_any (x : FlH) (g : Nat) (m : Lt) (w : World) (h : LtAt w g m) :
    Calls Try.prog 45 (#[valFl x] ++ #[.pointer (some ⟨g, 0, none⟩)]) w fun e w' => e = .returned (.bool (sEq x.name m.t)) ∧ Below w.heap.size w w' := by
  have l1 := h.lt
  obtain ⟨m0, m1, m2, m3, m4, m5⟩ := h.cells
  simp only [List.append_toArray, List.cons_append, List.nil_append]
  go_enter Try.func45, Try.ntmps45
  go_wp2_with fail
  go_ret
  exact ⟨rfl, Below.new_ w _⟩
theorem eg_rowC : ∀ args w, (callFunc 48 args).run Try.prog w = .ok (.enter 48 args) w := enters_of Try.func48 (by kernel_rfl) rfl
theorem rowC_any (x : FlH) (g : Nat) (m : Lt) (w : World) (h : LtAt w g m) :
    Calls Try.prog 48 (#[valFl x] ++ #[.pointer (some ⟨g, 0, none⟩)]) w fun e w' => e = .returned (.bool (x.seeker == m.f)) ∧ Below w.heap.size w w' := by
  have l1 := h.lt
  obtain ⟨m0, m1, m2, m3, m4, m5⟩ := h.cells
  simp only [List.append_toArray, List.cons_append, List.nil_append]
  go_enter Try.func48, Try.ntmps48
  go_wp2_with fail
  go_ret
  exact ⟨rfl, Below.new_ w _⟩
theorem eg_fliesC : ∀ args w, (callFunc 30 args).run Try.prog w = .ok (.enter 30 args) w := enters_of Try.func30 (by kernel_rfl) rfl
theorem fliesC_any (x : FlH) (g : Nat) (s : ByteArray) (w : World) (h : w.cell? ⟨g, 0, none⟩ = some (.string s)) :
    Calls Try.prog 30 (#[valFl x] ++ #[.pointer (some ⟨g, 0, none⟩)]) w fun e w' => e = .returned (.bool (sEq x.name s)) ∧ Below w.heap.size w w' := by
  have l1 := block_lt_of_cell h
  simp only [List.append_toArray, List.cons_append, List.nil_append]
  go_enter Try.func30, Try.ntmps30
  go_wp2_with fail
  go_ret
  exact ⟨rfl, Below.new_ w _⟩
theorem ClipI_any (A : Option Addr) (n c : Nat) (w : World) (hnc : n ≤ c) (hA : A = none → c = 0) (hc : n ≤ 100000) :
    Calls Try.prog 47 #[.slice A n c] w fun e w' => e = .returned (.slice A n n) ∧ w = w' := by
  rcases A with _ | a
  · obtain rfl := hA rfl
    obtain rfl : n = 0 := by omega
    go_enter Try.func47, Try.ntmps47
    go_wp2_with fail
    go_ret
    exact ⟨rfl, rfl⟩
  · clear hA
    go_enter Try.func47, Try.ntmps47
    go_wp2_with fail
    go_ret
    exact ⟨rfl, rfl⟩
theorem encFl_one' (x : FlH) (u : Value) (h : u ∈ encFl x) : u.oneCell' = true := encFl_one x u h
theorem zeroFl (w : World) : (zeroValue 82).run Try.prog w = .ok (.agg #[.string ⟨#[]⟩, .int .i64 0, .slice none 0 0]) w := by kernel_rfl
theorem zFl : (Builtin.zeroCells (Value.agg #[.string ⟨#[]⟩, .int .i64 0, .slice none 0 0]).cells 1).toList = [.string ⟨#[]⟩, .int .i64 0, .slice none 0 0] := by kernel_rfl
set_option maxRecDepth 100000 in
set_option maxHeartbeats 2000000 in
theorem DelFl_any (base g n c i : Nat) (l : List FlH) (w : World) (ho : OwFl w base (some ⟨g, 0, none⟩) n c l) (hi : i < n) (hn : n ≤ 100000) :
    Calls Try.prog 49 #[.slice (some ⟨g, 0, none⟩) n c, .int .i64 i, .int .i64 ((i : Int) + 1)] w fun e w' => e = .returned (.slice (some ⟨g, 0, none⟩) (n - 1) c) ∧ OwFl w' base (some ⟨g, 0, none⟩) (n - 1) c (l.eraseIdx i) ∧ w.grownBy w' (some g) := by
  obtain ⟨i0, hi0, hz0, hz1, hz2⟩ := info_parts infoFl
  have hnc := ho.2.2.1
  have hcm := ho.2.2.2.1
  unfold maxLen at hcm
  obtain ⟨w1, hrun, hr1, hg1, hs1⟩ := run_append_del (P := Try.prog) encFl_len (by omega) encFl_one' w.drew base 27 27 82 i0 Try.underlying27 hi0 hz1 g n c i l ho.drew hi (if c = i + 1 then some ⟨g, 0, none⟩ else some ⟨g, (i + 1) * 3, none⟩) rfl
  have hm : i + (n - (i + 1)) = n - 1 := by omega
  rw [hm] at hrun
  have hln := ho.1
  have hlE : (l.eraseIdx i).length = n - 1 := by rw [List.length_eraseIdx]; simp [hln, hi]
  obtain ⟨cur1, hh1, hc1, ht1⟩ := hr1.out
  have hle : (n - 1) * 3 + 3 ≤ cur1.size := by rw [hc1]; omega
  obtain ⟨w2, hrun2, hr2, hg2, hs2⟩ := run_clear_one (P := Try.prog) w1 27 0 82 (.agg #[.string ⟨#[]⟩, .int .i64 0, .slice none 0 0]) 3 g ((n - 1) * 3) (c - (n - 1)) cur1 Try.underlying27 zeroFl (by rw [zFl]; rfl) (by intro u hu; rw [zFl] at hu; simp only [List.mem_cons, List.not_mem_nil, or_false] at hu; rcases hu with rfl | rfl | rfl <;> rfl) hh1 hle
  obtain ⟨cur2, hh2, hc2, ht2⟩ := hr2.out
  have hbg : base ≤ g := by
    rcases ho.2.2.2.2 with h0 | ⟨g', cur, e1, hb, _⟩
    · omega
    · injection e1 with e1; injection e1 with e1; subst e1; exact hb
  have hfin : OwFl w2 base (some ⟨g, 0, none⟩) (n - 1) c (l.eraseIdx i) :=
    ⟨hlE, by rw [flatMap_len encFl_len, hlE], by omega, by unfold maxLen; omega, .inr ⟨g, cur2, rfl, hbg, hh2, by rw [hc2, hc1], by rw [ht2, ht1]⟩⟩
  have HFIN := Lib.hid hfin
  have HRUN := Lib.hid hrun
  have HRUN2 := Lib.hid hrun2
  have hgr : w.grownBy w2 (some g) := grown_trans ⟨hg1.os, hg1.tape, hg1.output, hg1.size, hg1.block⟩ hg2
  have hb0 : ((i : Int) == (i : Int) + 1) = false := by simp; omega
  clear hfin hrun hrun2 hr1 hr2 hh1 hh2 hc1 hc2 ht1 ht2 hlE hln hs1 hs2 hm hz0 hz1 hz2 hi0 hle ho hg1 hg2
  obtain ⟨m, rfl⟩ : ∃ m, n = m + 1 := ⟨n - 1, by omega⟩
  rw [Nat.add_sub_cancel] at HRUN HRUN2 HFIN
  have hmw : ((m + 1 : Nat) : Int) = (m : Int) + 1 := by omega
  have hm1 : ¬ m + 1 = m := by omega
  by_cases hci : c = i + 1
  · obtain rfl : i = m := by omega
    subst hci
    rw [if_pos rfl] at HRUN
    have j1 : (i : Int) ≤ (i : Int) + 1 := by omega
    have j2 : i ≤ i + 1 := by omega
    have j3 : (0 : Int) ≤ (i : Int) + 1 := by omega
    rw [Nat.sub_self] at HRUN
    go_enter Try.func49, Try.ntmps49
    go_wp2_with fail
    go_region_law (refine step_append_run rfl (.tmp 22) (.tmp 25) 27 rfl _ _ _ (by first | (go_simp; done) | rfl) (by first | (go_simp; done) | rfl) (by exact HRUN.out) ?_)
    go_wp2_with (refine wpList_clear_run rfl (.tmp 31) 27 rfl _ _ (by first | (go_simp; done) | rfl) (by exact HRUN2.out) ?_)
    go_ret
    exact ⟨rfl, HFIN.out, hgr⟩
  · rw [if_neg hci] at HRUN
    have j1 : (i : Int) ≤ (c : Int) := by omega
    have j2 : i ≤ c := by omega
    have j3 : (i : Int) + 1 ≤ (c : Int) := by omega
    have j4 : i + 1 ≤ c := by omega
    have j5 : (i : Int) + 1 ≤ (m : Int) + 1 := by omega
    have j6 : i ≤ m := by omega
    have j7 : m ≤ c := by omega
    have j8 : (m : Int) ≤ (c : Int) := by omega
    have j9 : m + 1 ≤ c := by omega
    have j10 : (m : Int) + 1 ≤ (c : Int) := by omega
    have j11 : ¬ c = m := by omega
    have j12 : (0 : Int) ≤ (i : Int) + 1 := by omega
    rw [Nat.add_sub_add_right] at HRUN
    go_enter Try.func49, Try.ntmps49
    go_wp2_with fail
    go_region_law (refine step_append_run rfl (.tmp 22) (.tmp 25) 27 rfl _ _ _ (by first | (go_simp; done) | rfl) (by first | (go_simp; done) | rfl) (by exact HRUN.out) ?_)
    go_wp2_with (refine wpList_clear_run rfl (.tmp 31) 27 rfl _ _ (by first | (go_simp; done) | rfl) (by exact HRUN2.out) ?_)
    go_ret
    exact ⟨rfl, HFIN.out, hgr⟩
end Go.Proofs.Ytfahmfaakjnpcaa
