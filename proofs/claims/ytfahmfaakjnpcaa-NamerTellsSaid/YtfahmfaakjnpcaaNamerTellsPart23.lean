/-
  What the document's copied of chapter 18 computes: a namer whose lists of lookups are its own. Conditions: at most 1000 lookups in flight, of at most 90000 races each.
-/
import Derived.Test.YtfahmfaakjnpcaaNamerTellsPart17
import Derived.Test.YtfahmfaakjnpcaaNamerTellsPart22
import Derived.Laws.Tables
namespace Go.Proofs.Ytfahmfaakjnpcaa
set_option linter.unusedVariables false
set_option linter.unusedSimpArgs false
open Go.RowKit Go.Shelf

theorem setRow_below {B : Nat} {w0 w : World} {g : Nat} (cs : Array Value) (h : Below B w0 w) (hg : B ≤ g) : Below B w0 (w.setRow g cs) :=
  ⟨h.os, h.tape, h.output, by rw [size_setRow]; exact h.size, fun b hb => (setRow_other w g b cs (by omega)).trans (h.block b hb)⟩
/-- Other lookups in flight. -/
abbrev withF (h : NmH) (A : Option Addr) (n c : Nat) : NmH := { h with fA := A, fn := n, fc := c }
/-- The copy as far as it is made: the original at block w.heap.size, the result's block behind it. -/
structure CpIs (w : World) (h : NmH) (fs : List Fx) (q k : Nat) (fA : Option Addr) (fc : Nat) (fxs : List Fx) (wr : World) : Prop where
  fl : OwFl wr q fA k fc (fxs.map (·.1))
  asks : ∀ p ∈ fxs, OwI wr q 3 p.1.A p.1.n p.1.c p.2
  abs : absF fxs = (absF fs).take k
  bel : Below w.heap.size w wr
  old : NmRow wr w.heap.size h
  res : NmRow wr (w.heap.size + 1) zeroNm
  big : w.heap.size + 1 < q
  apart : fxs.Pairwise fun p p' => rowOf p.1.A p.1.c = none ∨ rowOf p.1.A p.1.c ≠ rowOf p'.1.A p'.1.c
section
variable {w wr w' : World} {h : NmH} {fs fxs : List Fx} {q k fc : Nat} {fA : Option Addr}
theorem CpIs.next (x : CpIs w h fs q k fA fc fxs wr) (hb : Below wr.heap.size wr w') : CpIs w h fs q k fA fc fxs w' :=
  ⟨x.fl.below hb, fun p hp => (x.asks p hp).below hb, x.abs, x.bel.trans (hb.mono x.bel.size), x.old.block (hb.block _ x.old.lt), x.res.block (hb.block _ x.res.lt), x.big, x.apart⟩
theorem CpIs.push (x : CpIs w h fs q k fA fc fxs wr) {y : FlH} {L : List Int} {fA' : Option Addr} {fc' : Nat} (hy : (absF fs)[k]? = some (y.name, y.seeker, L)) (hI : OwI wr q 3 y.A y.n y.c L) (hrow : rowOf y.A y.c = none ∨ ∃ g, rowOf y.A y.c = some g ∧ ∀ p ∈ fxs, ∀ g', rowOf p.1.A p.1.c = some g' → g' < g)
    (hg : wr.grownBy w' (rowOf fA fc)) (ho : OwFl w' q fA' (k + 1) fc' (fxs.map (·.1) ++ [y])) : CpIs w h fs q (k + 1) fA' fc' (fxs ++ [(y, L)]) w' := by
  have hbq := x.big
  have keepI : ∀ {A : Option Addr} {n c : Nat} {L : List Int}, OwI wr q 3 A n c L → OwI w' q 3 A n c L := fun hL => Ow.kept hL hg (Ow.apart hL x.fl.2 (by decide))
  refine ⟨?_, ?_, ?_, x.bel.grown hg x.bel.size (fun g hgr => by have := x.fl.2.row g hgr; omega), x.old.block (x.fl.2.grown_block x.old (by decide) hg), x.res.block (x.fl.2.grown_block x.res (by decide) hg), x.big, List.pairwise_append.2 ⟨x.apart, List.pairwise_singleton _ _, fun a ha b hb => ?_⟩⟩
  · rw [List.map_append]
    exact ho
  · intro p hp
    rcases List.mem_append.1 hp with hp | hp
    · exact keepI (x.asks p hp)
    · obtain rfl := List.mem_singleton.1 hp
      exact keepI hI
  · unfold absF at hy ⊢
    rw [List.map_append, take_succ_of hy]
    have := x.abs
    unfold absF at this
    rw [this]
    rfl
  · obtain rfl := List.mem_singleton.1 hb
    cases hra : rowOf a.1.A a.1.c with
    | none => exact .inl rfl
    | some g' =>
      right
      rcases hrow with h | ⟨g, h, hlt⟩
      · show some g' ≠ rowOf y.A y.c
        rw [h]; simp
      · have := hlt a ha g' hra
        show some g' ≠ rowOf y.A y.c
        rw [h]
        intro e
        injection e with e
        omega
end
def CopiedPost (h : NmH) (fs : List Fx) (w : World) (e : Ending) (w' : World) : Prop :=
  ∃ (fA : Option Addr) (fc : Nat) (fxs : List Fx), e = .returned (.agg #[.int .i64 (withF h fA h.fn fc).id, .int .i64 (withF h fA h.fn fc).cf.1, .int .i64 (withF h fA h.fn fc).cf.2.1, .int .i64 (withF h fA h.fn fc).cf.2.2.1, .int .i64 (withF h fA h.fn fc).cf.2.2.2.1, .int .i64 (withF h fA h.fn fc).cf.2.2.2.2.1, .int .i64 (withF h fA h.fn fc).cf.2.2.2.2.2.1, .int .i64 (withF h fA h.fn fc).cf.2.2.2.2.2.2.1, .int .i64 (withF h fA h.fn fc).cf.2.2.2.2.2.2.2.1, .int .i64 (withF h fA h.fn fc).cf.2.2.2.2.2.2.2.2, .slice (withF h fA h.fn fc).kA (withF h fA h.fn fc).kn (withF h fA h.fn fc).kc, .slice (withF h fA h.fn fc).fA (withF h fA h.fn fc).fn (withF h fA h.fn fc).fc, .bool (withF h fA h.fn fc).over]) ∧ OwFl w' w.heap.size fA h.fn fc (fxs.map (·.1)) ∧ (∀ p ∈ fxs, OwI w' w.heap.size 3 p.1.A p.1.n p.1.c p.2) ∧ absF fxs = absF fs ∧ (fxs.Pairwise fun p p' => rowOf p.1.A p.1.c = none ∨ rowOf p.1.A p.1.c ≠ rowOf p'.1.A p'.1.c) ∧ Below w.heap.size w w'
set_option maxRecDepth 100000 in
set_option maxHeartbeats 8000000 in
theorem rcopied_any (h : NmH) (fs : List Fx) (w : World) (hN : FlysIs w w.heap.size h.fA h.fn fs) (hfn : h.fn ≤ 1000) (hpn : ∀ p ∈ fs, p.1.n ≤ 90000) :
    Calls Try.prog 56 #[.agg #[.int .i64 h.id, .int .i64 h.cf.1, .int .i64 h.cf.2.1, .int .i64 h.cf.2.2.1, .int .i64 h.cf.2.2.2.1, .int .i64 h.cf.2.2.2.2.1, .int .i64 h.cf.2.2.2.2.2.1, .int .i64 h.cf.2.2.2.2.2.2.1, .int .i64 h.cf.2.2.2.2.2.2.2.1, .int .i64 h.cf.2.2.2.2.2.2.2.2, .slice h.kA h.kn h.kc, .slice h.fA h.fn h.fc, .bool h.over]] w fun e w' => CopiedPost h fs w e w' := by
  have HLEN := Lib.hid hN.len
  have hA : NmRow ((w.alloc (.cells #[.int .i64 h.id, .int .i64 h.cf.1, .int .i64 h.cf.2.1, .int .i64 h.cf.2.2.1, .int .i64 h.cf.2.2.2.1, .int .i64 h.cf.2.2.2.2.1, .int .i64 h.cf.2.2.2.2.2.1, .int .i64 h.cf.2.2.2.2.2.2.1, .int .i64 h.cf.2.2.2.2.2.2.2.1, .int .i64 h.cf.2.2.2.2.2.2.2.2, .slice h.kA h.kn h.kc, .slice h.fA h.fn h.fc, .bool h.over] 29)).alloc (.cells #[.int .i64 0, .int .i64 0, .int .i64 0, .int .i64 0, .int .i64 0, .int .i64 0, .int .i64 0, .int .i64 0, .int .i64 0, .int .i64 0, .slice none 0 0, .slice none 0 0, .bool false] 29)) w.heap.size h := (Below.heap_alloc _ _ _ (by simp)).trans (heap_alloc_new w _)
  have hZ : NmRow ((w.alloc (.cells #[.int .i64 h.id, .int .i64 h.cf.1, .int .i64 h.cf.2.1, .int .i64 h.cf.2.2.1, .int .i64 h.cf.2.2.2.1, .int .i64 h.cf.2.2.2.2.1, .int .i64 h.cf.2.2.2.2.2.1, .int .i64 h.cf.2.2.2.2.2.2.1, .int .i64 h.cf.2.2.2.2.2.2.2.1, .int .i64 h.cf.2.2.2.2.2.2.2.2, .slice h.kA h.kn h.kc, .slice h.fA h.fn h.fc, .bool h.over] 29)).alloc (.cells #[.int .i64 0, .int .i64 0, .int .i64 0, .int .i64 0, .int .i64 0, .int .i64 0, .int .i64 0, .int .i64 0, .int .i64 0, .int .i64 0, .slice none 0 0, .slice none 0 0, .bool false] 29)) (w.heap.size + 1) zeroNm := by
    have := heap_alloc_new (w.alloc (.cells #[.int .i64 h.id, .int .i64 h.cf.1, .int .i64 h.cf.2.1, .int .i64 h.cf.2.2.1, .int .i64 h.cf.2.2.2.1, .int .i64 h.cf.2.2.2.2.1, .int .i64 h.cf.2.2.2.2.2.1, .int .i64 h.cf.2.2.2.2.2.2.1, .int .i64 h.cf.2.2.2.2.2.2.2.1, .int .i64 h.cf.2.2.2.2.2.2.2.2, .slice h.kA h.kn h.kc, .slice h.fA h.fn h.fc, .bool h.over] 29)) (.cells #[.int .i64 0, .int .i64 0, .int .i64 0, .int .i64 0, .int .i64 0, .int .i64 0, .int .i64 0, .int .i64 0, .int .i64 0, .int .i64 0, .slice none 0 0, .slice none 0 0, .bool false] 29)
    rw [World.size_alloc] at this
    exact this
  have hB := (Below.new_ w (.cells #[.int .i64 h.id, .int .i64 h.cf.1, .int .i64 h.cf.2.1, .int .i64 h.cf.2.2.1, .int .i64 h.cf.2.2.2.1, .int .i64 h.cf.2.2.2.2.1, .int .i64 h.cf.2.2.2.2.2.1, .int .i64 h.cf.2.2.2.2.2.2.1, .int .i64 h.cf.2.2.2.2.2.2.2.1, .int .i64 h.cf.2.2.2.2.2.2.2.2, .slice h.kA h.kn h.kc, .slice h.fA h.fn h.fc, .bool h.over] 29)).alloc (by simp) (.cells #[.int .i64 0, .int .i64 0, .int .i64 0, .int .i64 0, .int .i64 0, .int .i64 0, .int .i64 0, .int .i64 0, .int .i64 0, .int .i64 0, .slice none 0 0, .slice none 0 0, .bool false] 29)
  have hsz : ((w.alloc (.cells #[.int .i64 h.id, .int .i64 h.cf.1, .int .i64 h.cf.2.1, .int .i64 h.cf.2.2.1, .int .i64 h.cf.2.2.2.1, .int .i64 h.cf.2.2.2.2.1, .int .i64 h.cf.2.2.2.2.2.1, .int .i64 h.cf.2.2.2.2.2.2.1, .int .i64 h.cf.2.2.2.2.2.2.2.1, .int .i64 h.cf.2.2.2.2.2.2.2.2, .slice h.kA h.kn h.kc, .slice h.fA h.fn h.fc, .bool h.over] 29)).alloc (.cells #[.int .i64 0, .int .i64 0, .int .i64 0, .int .i64 0, .int .i64 0, .int .i64 0, .int .i64 0, .int .i64 0, .int .i64 0, .int .i64 0, .slice none 0 0, .slice none 0 0, .bool false] 29)).heap.size = w.heap.size + 2 := by simp
  go_enter Try.func56, Try.ntmps56
  go_upto_region 3 with fail
  generalize ((w.alloc (.cells #[.int .i64 h.id, .int .i64 h.cf.1, .int .i64 h.cf.2.1, .int .i64 h.cf.2.2.1, .int .i64 h.cf.2.2.2.1, .int .i64 h.cf.2.2.2.2.1, .int .i64 h.cf.2.2.2.2.2.1, .int .i64 h.cf.2.2.2.2.2.2.1, .int .i64 h.cf.2.2.2.2.2.2.2.1, .int .i64 h.cf.2.2.2.2.2.2.2.2, .slice h.kA h.kn h.kc, .slice h.fA h.fn h.fc, .bool h.over] 29)).alloc (.cells #[.int .i64 0, .int .i64 0, .int .i64 0, .int .i64 0, .int .i64 0, .int .i64 0, .int .i64 0, .int .i64 0, .int .i64 0, .int .i64 0, .slice none 0 0, .slice none 0 0, .bool false] 29)) = W at hA hZ hB hsz ⊢
  have hO : CpIs w h fs (w.heap.size + 2) 0 none 0 [] W := ⟨OwR.nil_ _ _ _ _, by simp, by unfold absF; simp, hB, hA, hZ, by omega, List.Pairwise.nil⟩
  have hqz : w.heap.size + 2 ≤ W.heap.size := by omega
  clear hA hZ hB hsz
  go_loopw [3, 4] (fun s3 s4 wr => ∃ (k : Nat) (fA : Option Addr) (fc : Nat) (fxs : List Fx), k ≤ h.fn ∧ s3 = .slice fA k fc ∧ s4 = .int .i64 k ∧ CpIs w h fs (w.heap.size + 2) k fA fc fxs wr ∧ w.heap.size + 2 ≤ wr.heap.size) (fun _ s4 _ => h.fn - (intOf s4).toNat)
  case atStart => exact ⟨0, none, 0, [], Nat.zero_le _, rfl, rfl, hO, hqz⟩
  case round =>
    clear hO hqz
    obtain ⟨k, fA, fc, fxs, hk, rfl, rfl, hO, hqz⟩ := hrel
    by_cases hlt : k < h.fn
    · obtain ⟨b, off, x, hA, hbb, hx, c0, c1, c2⟩ := Fls.cells (hN.1.below hO.bel) hlt
      obtain ⟨L, hL⟩ := fx_get hx.out
      have hpm := hN.2 _ (List.mem_of_getElem? hL)
      have hI := hpm.1.below hO.bel
      have hpx := hpn _ (List.mem_of_getElem? hL)
      have hY : Hid ((absF fs)[k]? = some (x.name, x.seeker, L)) := fl_at hL
      simp only at hI hpx
      have i0 : (0 : Int) ≤ (k : Int) := by omega
      have i1 : (k : Int) < (h.fn : Int) := by omega
      have a11 := hO.old.cells.2.2.2.2.2.2.2.2.2.2.2.1
      rw [hA] at a11
      have la := hO.old.lt
      have lb : b < wr.heap.size := by omega
      clear hL hx hpm hA
      have hbn := Below.new_ wr (.cells #[.string x.name, .int .i64 x.seeker, .slice x.A x.n x.c] 82)
      have hI1 := (hI.below' hbn (Nat.le_of_lt la)).more (B' := (wr.alloc (.cells #[.string x.name, .int .i64 x.seeker, .slice x.A x.n x.c] 82)).heap.size) (by simp; omega)
      have hF1 := heap_alloc_new wr (.cells #[.string x.name, .int .i64 x.seeker, .slice x.A x.n x.c] 82)
      go_upto_region 6 with fail
      clear c0 c1 c2 a11 hI hbb
      generalize hge : wr.heap.size = gf at *
      generalize (wr.alloc (.cells #[.string x.name, .int .i64 x.seeker, .slice x.A x.n x.c] 82)) = V4 at hbn hI1 hF1 ⊢
      obtain ⟨y0, y1, y2, z2⟩ := flrow_cells hF1
      have lgf : gf < V4.heap.size := (Array.getElem?_eq_some_iff.1 hF1).1
      have hq4 : w.heap.size + 2 ≤ V4.heap.size := by omega
      go_upto_region 7 with (at_builtin; refine wpList_appI _ rfl (.tmp 18) (.tmp 20) rfl (w.heap.size + 2) _ _ _ _ rfl (OwI.nil_ _ _ _ _) V4.heap.size _ _ _ L rfl (hI1.alloc (Nat.le_refl _) _) (by omega) (by simp; omega) ?_; intro A5 c5 w5 ho5 hg5 hr5; have hbX := (Below.new_ V4 (.cells #[] 3)).grown hg5 (by simp) (by simp [rowOf]); have hF5 := (hbX.block _ lgf).trans hF1; obtain ⟨p0, p1, p2, e2⟩ := flrow_cells hF5)
      have hO5 : CpIs w h fs (w.heap.size + 2) k fA fc fxs (w5.setCell ⟨gf, 2, none⟩ (.slice A5 x.n c5)) := hO.next (by rw [hge]; exact (hbn.trans (hbX.mono (Nat.le_of_lt lgf))).setCell (p := ⟨gf, 2, none⟩) (Nat.le_refl _) _)
      have hI5 : OwI w5 (w.heap.size + 2) 3 A5 x.n c5 L := by have := ho5; rwa [Nat.zero_add, List.nil_append] at this
      have hI6 : OwI (w5.setCell ⟨gf, 2, none⟩ (.slice A5 x.n c5)) (w.heap.size + 2) 3 A5 x.n c5 L := by
        refine Ow.set hI5 (fun g hgr => ?_) _
        rcases Ow.not_at hI5 hF5 (by decide) with h2 | h2
        · rw [h2] at hgr; cases hgr
        · rintro rfl; exact h2 hgr
      have hF6 : (w5.setCell ⟨gf, 2, none⟩ (.slice A5 x.n c5)).heap[gf]? = some (.cells #[.string x.name, .int .i64 x.seeker, .slice A5 x.n c5] 82 (0, 0)) := by simp [World.setCell, Array.getElem?_modify, hF5]
      have hrw : Hid (rowOf A5 c5 = none ∨ ∃ g, rowOf A5 c5 = some g ∧ ∀ p ∈ fxs, ∀ g', rowOf p.1.A p.1.c = some g' → g' < g) := by
        rcases hr5 with h | ⟨h, _⟩
        · exact .inl (by rw [h]; simp [rowOf])
        · exact .inr ⟨_, h, fun p hp g' hg' => by have := (Ow.row (hO.asks p hp) g' hg').2; simp; omega⟩
      clear hO hbn hI1 hF1 y0 y1 y2 z2 lgf ho5 hg5 hr5 hbX hF5 p0 p1 p2 e2 hI5 hq4
      generalize (w5.setCell ⟨gf, 2, none⟩ (.slice A5 x.n c5)) = V5 at hO5 hI6 hF6 ⊢
      obtain ⟨y0, y1, y2, z2⟩ := flrow_cells hF6
      have lgf : gf < V5.heap.size := (Array.getElem?_eq_some_iff.1 hF6).1
      have hO6 := hO5.next (Below.new_ V5 (.cells #[.string x.name, .int .i64 x.seeker, .slice A5 x.n c5] 82))
      have hI7 : OwI (V5.alloc (.cells #[.string x.name, .int .i64 x.seeker, .slice A5 x.n c5] 82)) (w.heap.size + 2) 3 A5 x.n c5 L := hI6.alloc _
      have hz5 : w.heap.size + 2 ≤ V5.heap.size := by omega
      go_wp2_with (at_builtin; refine wpList_appFl _ rfl (.tmp 23) (.tmp 25) rfl (w.heap.size + 2) fA k fc _ rfl hO6.fl (V5.heap.size + 1) (some ⟨V5.heap.size, 0, none⟩) 1 1 [⟨x.name, x.seeker, A5, x.n, c5⟩] rfl (Fls.new1 V5 _ rfl ⟨x.name, x.seeker, A5, x.n, c5⟩ 82) (by omega) (by simp; omega) ?_; intro fA' fc' w7 ho7 hg7 hr7)
      have hO8 := hO6.push (y := ⟨x.name, x.seeker, A5, x.n, c5⟩) hY.out hI7 hrw.out hg7 ho7
      have hz7 : w.heap.size + 2 ≤ w7.heap.size := by have := hg7.size; simp at this; omega
      clear hO5 hI6 hF6 y0 y1 y2 z2 hO6 hI7 ho7 hg7 hr7
      go_roundw
      case rel => exact ⟨k + 1, fA', fc', _, by omega, rfl, by go_num, hO8, hz7⟩
      case measure => simp [intOf]; omega
    · obtain rfl : k = h.fn := by omega
      have a11 := hO.old.cells.2.2.2.2.2.2.2.2.2.2.2.1
      have f11 := hO.old.free.2.2.2.2.2.2.2.2.2.2.2.1
      have la := hO.old.lt
      have hR := hO.old.setF fA h.fn fc
      have hne : w.heap.size + 1 ≠ w.heap.size := by omega
      have hZ : NmRow (wr.setCell ⟨w.heap.size, 11, none⟩ (.slice fA h.fn fc)) (w.heap.size + 1) zeroNm := hO.res.block (Below.heap_setCell _ _ _ _ hne)
      have hB := hO.bel.setCell (p := ⟨w.heap.size, 11, none⟩) (Nat.le_refl _) (.slice fA h.fn fc)
      have hfl : OwFl (wr.setCell ⟨w.heap.size, 11, none⟩ (.slice fA h.fn fc)) (w.heap.size + 2) fA h.fn fc (fxs.map (·.1)) := ⟨hO.fl.1, hO.fl.2.set (fun g hg => by have := hO.fl.2.row g hg; show g ≠ w.heap.size; omega) _⟩
      have has : ∀ p ∈ fxs, OwI (wr.setCell ⟨w.heap.size, 11, none⟩ (.slice fA h.fn fc)) (w.heap.size + 2) 3 p.1.A p.1.n p.1.c p.2 := fun p hp => Ow.set (hO.asks p hp) (fun g hg => by have := Ow.row (hO.asks p hp) g hg; show g ≠ w.heap.size; omega) _
      have hab : Hid (absF fxs = absF fs) := by
        show _ = _
        rw [hO.abs, List.take_of_length_le (by rw [absF_len, HLEN.out]; exact Nat.le_refl _)]
      have hap := Lib.hid hO.apart
      go_upto_region 9 with fail
      clear a11 f11 la hO
      generalize (wr.setCell ⟨w.heap.size, 11, none⟩ (.slice fA h.fn fc)) = V8 at hR hZ hB hfl has ⊢
      have hfin := setRow_below #[.int .i64 (withF h fA h.fn fc).id, .int .i64 (withF h fA h.fn fc).cf.1, .int .i64 (withF h fA h.fn fc).cf.2.1, .int .i64 (withF h fA h.fn fc).cf.2.2.1, .int .i64 (withF h fA h.fn fc).cf.2.2.2.1, .int .i64 (withF h fA h.fn fc).cf.2.2.2.2.1, .int .i64 (withF h fA h.fn fc).cf.2.2.2.2.2.1, .int .i64 (withF h fA h.fn fc).cf.2.2.2.2.2.2.1, .int .i64 (withF h fA h.fn fc).cf.2.2.2.2.2.2.2.1, .int .i64 (withF h fA h.fn fc).cf.2.2.2.2.2.2.2.2, .slice (withF h fA h.fn fc).kA (withF h fA h.fn fc).kn (withF h fA h.fn fc).kc, .slice (withF h fA h.fn fc).fA (withF h fA h.fn fc).fn (withF h fA h.fn fc).fc, .bool (withF h fA h.fn fc).over] hB (Nat.le_succ _)
      have hG : ∀ b, b ≠ w.heap.size + 1 → (V8.setRow (w.heap.size + 1) #[.int .i64 (withF h fA h.fn fc).id, .int .i64 (withF h fA h.fn fc).cf.1, .int .i64 (withF h fA h.fn fc).cf.2.1, .int .i64 (withF h fA h.fn fc).cf.2.2.1, .int .i64 (withF h fA h.fn fc).cf.2.2.2.1, .int .i64 (withF h fA h.fn fc).cf.2.2.2.2.1, .int .i64 (withF h fA h.fn fc).cf.2.2.2.2.2.1, .int .i64 (withF h fA h.fn fc).cf.2.2.2.2.2.2.1, .int .i64 (withF h fA h.fn fc).cf.2.2.2.2.2.2.2.1, .int .i64 (withF h fA h.fn fc).cf.2.2.2.2.2.2.2.2, .slice (withF h fA h.fn fc).kA (withF h fA h.fn fc).kn (withF h fA h.fn fc).kc, .slice (withF h fA h.fn fc).fA (withF h fA h.fn fc).fn (withF h fA h.fn fc).fc, .bool (withF h fA h.fn fc).over]).heap[b]? = V8.heap[b]? := fun b hb => setRow_other V8 _ b _ hb
      have hrr := setRow_heap V8 (w.heap.size + 1) _ #[.int .i64 (withF h fA h.fn fc).id, .int .i64 (withF h fA h.fn fc).cf.1, .int .i64 (withF h fA h.fn fc).cf.2.1, .int .i64 (withF h fA h.fn fc).cf.2.2.1, .int .i64 (withF h fA h.fn fc).cf.2.2.2.1, .int .i64 (withF h fA h.fn fc).cf.2.2.2.2.1, .int .i64 (withF h fA h.fn fc).cf.2.2.2.2.2.1, .int .i64 (withF h fA h.fn fc).cf.2.2.2.2.2.2.1, .int .i64 (withF h fA h.fn fc).cf.2.2.2.2.2.2.2.1, .int .i64 (withF h fA h.fn fc).cf.2.2.2.2.2.2.2.2, .slice (withF h fA h.fn fc).kA (withF h fA h.fn fc).kn (withF h fA h.fn fc).kc, .slice (withF h fA h.fn fc).fA (withF h fA h.fn fc).fn (withF h fA h.fn fc).fc, .bool (withF h fA h.fn fc).over] _ _ hZ
      have la := hR.lt
      go_wp2_with (first | (refine wpList_load_row rfl 29 _ rfl w.heap.size rfl 29 _ _ _ hR Try.underlying29 rfl (by kernel_rfl) ?_) | (refine wpList_store_row rfl 29 _ _ rfl (w.heap.size + 1) _ rfl rfl 29 _ hZ (by kernel_rfl) rfl (by kernel_rfl) ?_))
      refine bodyPost_ret (results_cell Try.results56 _ _ (w.heap.size + 1) _ _ _ _ rfl hrr Try.underlying29 rfl (by kernel_rfl)) rfl ?_
      refine ⟨fA, fc, fxs, rfl, ⟨hfl.1, (hfl.2.block fun g hg => hG g ?_).rebase (by omega)⟩, fun p hp => (Ow.block (has p hp) fun g hg => hG g ?_).rebase (by omega), hab.out, hap.out, hfin⟩
      · have := hfl.2.row g hg
        omega
      · have := Ow.row (has p hp) g hg
        omega
end Go.Proofs.Ytfahmfaakjnpcaa
