/-
  The walk of the statement PaceKeeps: it returns true and writes nothing that was there. Conditions: the acts read as a list of records whose numbers are int64.
-/
import Derived.Test.YtcmgcbkhjdeinaaPaceLaws
import Derived.Test.YtcmgcbkhjdeinaaPaceKeepsPlain
import Derived.Test.YtcmgcbkhjdeinaaPacePlansWalk
import Derived.Test.YtcmgcbkhjdeinaaOpenPc
namespace Go.Proofs.Ytcmgcbkhjdeinaa
open Go.RowKit

structure ActR where
  n : Int
  later : Int
def encAct (x : ActR) : List Value := [.int .i64 x.n, .int .i64 x.later]
theorem encAct_len (x : ActR) : (encAct x).length = 2 := rfl
abbrev Acts (w : World) (B : Nat) (A : Option Addr) (n : Nat) (xs : List ActR) : Prop := Recs encAct 2 w B A n xs
theorem Acts.cells {w : World} {B : Nat} {A : Option Addr} {n : Nat} {xs : List ActR} (h : Acts w B A n xs) {i : Nat} (hi : i < n) :
    ∃ b off x, A = some ⟨b, off, none⟩ ∧ b < B ∧ Hid (xs[i]? = some x) ∧ w.cell? ⟨b, off + i * 2, none⟩ = some (.int .i64 x.n) ∧ w.cell? ⟨b, off + i * 2 + 1, none⟩ = some (.int .i64 x.later) := by
  obtain ⟨b, off, x, e, hb, hx, hc⟩ := Recs.at_ encAct_len (by omega) h hi
  exact ⟨b, off, x, e, hb, hx, hc 0 _ rfl, by have := hc 1 _ rfl; rwa [← Nat.add_assoc] at this⟩
def okAct (x : ActR) : Prop := (Lit.int .i64 x.n).wf = true ∧ (Lit.int .i64 x.later).wf = true

def KKInv (w : World) (stagger total : Int) (n g : Nat) (s7 s9 s10 s11 s12 : Value) (wr : World) : Prop :=
  ∃ (k : Nat) (r : List Pc) (nw since : Int) (st : Nat) (bl : List Bool) (A' : Option Addr) (c' : Nat), k + g = n ∧ r.length ≤ k ∧ nw ≤ 100 * k ∧ s12 = .int .i64 k ∧ s9 = .int .i64 nw ∧ s10 = .int .i64 since ∧ s11 = .int .i64 st ∧
    s7 = .slice A' r.length c' ∧ OwP wr (w.heap.size + 1) A' r.length c' r ∧ Below w.heap.size w wr ∧ w.heap.size < wr.heap.size ∧ wr.heap[w.heap.size]? = some (.cells (bl.map Value.bool).toArray 29 (0, 0)) ∧ KM stagger total r nw since st bl ∧ ∀ x ∈ r, okPc x

theorem bools_cell {w : World} {g : Nat} {bl : List Bool} {e : TypeId} (h : w.heap[g]? = some (.cells (bl.map Value.bool).toArray e (0, 0))) {i : Nat} (hi : i < bl.length) : w.cell? ⟨g, i, none⟩ = some (.bool (bl.getD i false)) := by
  rw [cell_of_row w g i _ e (0, 0) h]
  simp [List.getD_eq_getElem?_getD, List.getElem?_eq_getElem hi]
theorem bools_frozen {w : World} {g : Nat} {bl : List Bool} {e : TypeId} (h : w.heap[g]? = some (.cells (bl.map Value.bool).toArray e (0, 0))) (i : Nat) : w.frozen? ⟨g, i, none⟩ = false := by
  simp [World.frozen?, h]
theorem bools_set {w : World} {g : Nat} {bl : List Bool} {e : TypeId} (h : w.heap[g]? = some (.cells (bl.map Value.bool).toArray e (0, 0))) (i : Nat) (b : Bool) : (w.setCell ⟨g, i, none⟩ (.bool b)).heap[g]? = some (.cells ((bl.set i b).map Value.bool).toArray e (0, 0)) := by
  simp [World.setCell, Array.getElem?_modify, h, List.map_set]

set_option maxRecDepth 100000 in
set_option maxHeartbeats 4000000 in
theorem PaceKeeps_in (total stagger : Int) (A : Option Addr) (n c : Nat) (l : List ActR) (w : World) (hl : Acts w w.heap.size A n l) (hok : ∀ x ∈ l, okAct x) (hn : n ≤ 60)
    (h1 : 0 ≤ total) (h2 : total ≤ 8) (h3 : 0 ≤ stagger) (h4 : stagger ≤ 100) :
    Calls Try.prog 4 #[.int .i64 total, .int .i64 stagger, .slice A n c] w fun e w' => e = .returned (.bool true) ∧ Below w.heap.size w w' := by
  have d1 : decide ((60 : Int) < (n : Int)) = false := by simp; omega
  have d2 : decide (total < 0) = false := by simp; omega
  have d3 : decide (8 < total) = false := by simp; omega
  have d4 : decide (stagger < 0) = false := by simp; omega
  have d5 : decide (100 < stagger) = false := by simp; omega
  have HL := Lib.hid hl.len
  have HOK := Lib.hid hok
  clear hok
  go_enter Try.func4, Try.ntmps4
  go_wp2_with fail
  go_loopg [7, 9, 10, 11, 12] n (fun g s7 s9 s10 s11 s12 wr => KKInv w stagger total n g s7 s9 s10 s11 s12 wr)
  case atStart => exact ⟨0, [], 0, 0, 0, List.replicate 8 false, none, 0, by omega, Nat.le_refl _, by omega, rfl, rfl, rfl, rfl, rfl, OwR.nil_ _ _ _ _, Below.new_ _ _, by simp, heap_alloc_new w _, KM.init stagger total h1, by simp⟩
  case round =>
    obtain ⟨k, r, nw, since, st, bl, A1, c1, hkg, hrk, hnw, rfl, rfl, rfl, rfl, rfl, ho, hb, hsz, harr, hkm, hokr⟩ := hrel
    have h8 := hkm.len8
    have hst := hkm.st8
    have hnw0 := hkm.nw0
    have HKM := Lib.hid hkm
    have HOKR := Lib.hid hokr
    have H8 := Lib.hid h8
    clear hkm hokr h8
    cases gk with
    | zero =>
      have hk1 : keeps stagger r = true := HKM.out.keeps
      have hls : (starts r).length = st := HKM.out.lens
      have hr60 : r.length ≤ 1000 := by omega
      have hd0 : decide (k < n) = false := by simp; omega
      have hnk : ¬ k < n := by omega
      have HLS := Lib.hid hls
      clear hls
      go_wp2_with fail
      refine (Keeps_any stagger _ _ _ _ r _ ho.recs (Nat.le_refl _) hr60 (fun x hx => (HOKR.out x hx).1)).mono ?_
      rintro e w5 ⟨rfl, hb5⟩
      go_wp2_with fail
      refine (Starts_any _ _ _ _ _ _ (ho.recs.below hb5) hb5.size (by omega)).mono ?_
      rintro e w6 ⟨A6, c6, rfl, ho6, hb6⟩
      rw [HLS.out]
      go_wp2_with fail
      refine (wakes14_any _).mono ?_
      rintro e w7 ⟨rfl, hb7⟩
      go_wp2_with fail
      go_ret
      exact ⟨rfl, ((hb.trans (hb5.mono hb.size)).trans (hb6.mono (Nat.le_trans hb.size hb5.size))).trans (hb7.mono (Nat.le_trans (Nat.le_trans hb.size hb5.size) hb6.size))⟩
    | succ g =>
      have hlt : k < n := by omega
      obtain ⟨b, off, x, rfl, hbb, hx, hx0, hx1⟩ := Acts.cells (hl.below hb) hlt
      have hokx : okAct x := HOK.out x (List.mem_of_getElem? hx.out)
      by_cases g1 : x.later < 0
      · have gd1 : decide (x.later < 0) = true := by simpa using g1
        go_wp2_with (go_at_call 7; refine (wakes14_any _).mono ?_; rintro e w' ⟨rfl, hbk⟩)
        go_ret
        exact ⟨rfl, (hb.alloc hb.size _).trans (hbk.mono (by have := hb.size; simp; omega))⟩
      · have gd1 : decide (x.later < 0) = false := by simpa using g1
        by_cases g2 : 100 < x.later
        · have gd2 : decide (100 < x.later) = true := by simpa using g2
          go_wp2_with (go_at_call 7; refine (wakes14_any _).mono ?_; rintro e w' ⟨rfl, hbk⟩)
          go_ret
          exact ⟨rfl, (hb.alloc hb.size _).trans (hbk.mono (by have := hb.size; simp; omega))⟩
        · have gd2 : decide (100 < x.later) = false := by simpa using g2
          go_upto_region 13 with fail
          go_cut [14] (fun s14 wx => s14 = .bool (decide (0 < st) && bl.getD (st - 1) false) ∧ wr.alloc (.cells #[.int .i64 x.n, .int .i64 x.later] 31) = wx)
          case first =>
            by_cases hz : 0 < st
            · have hd : decide (0 < st) = true := by simpa using hz
              have hcell := bools_cell harr (i := st - 1) (by rw [H8.out]; omega)
              have q1 : (1 : Int) ≤ (st : Int) := by omega
              have q2 : (st : Int) - 1 < 8 := by omega
              go_wp2_with fail
              go_meet
              case rel => exact ⟨by rw [hd]; simp [List.getD_eq_getElem?_getD], rfl⟩
            · have hd : decide (0 < st) = false := by simpa using hz
              have HZ := Lib.hid hz
              clear hz
              go_wp2_with fail
              go_meet
              case rel => exact ⟨by rw [hd]; rfl, rfl⟩
          case rest =>
            obtain ⟨rfl, rfl⟩ := hcut
            obtain ⟨lb, hlb⟩ : ∃ lb, lb = (decide (0 < st) && bl.getD (st - 1) false) := ⟨_, rfl⟩
            rw [← hlb]
            have HLB := Lib.hid hlb
            clear hlb hx0 hx1
            have hkm2 : Hid (KM stagger total r (nw + x.later) since st bl) := HKM.out.wait (by omega)
            have hb2 : Below w.heap.size w (wr.alloc (.cells #[.int .i64 x.n, .int .i64 x.later] 31)) := hb.alloc hb.size _
            have ho2 : OwP (wr.alloc (.cells #[.int .i64 x.n, .int .i64 x.later] 31)) (w.heap.size + 1) A1 r.length c1 r := OwR.alloc ho _
            have harr2 : (wr.alloc (.cells #[.int .i64 x.n, .int .i64 x.later] 31)).heap[w.heap.size]? = some (.cells (bl.map Value.bool).toArray 29 (0, 0)) := (Below.heap_alloc wr _ _ hsz).trans harr
            have hrec2 : OwP (wr.alloc (.cells #[.int .i64 x.n, .int .i64 x.later] 31)) (w.heap.size + 1) A1 r.length c1 r := ho2
            have hxn : (Lit.int .i64 x.n).wf = true := hokx.1
            cases hmay : mayB st total lb since stagger (nw + x.later)
            · -- it may not
              by_cases hN : 0 ≤ x.n
              · have dN : decide (0 ≤ x.n) = true := by simpa using hN
                by_cases hNs : x.n < (st : Int)
                · have dNs : decide (x.n < (st : Int)) = true := by simpa using hNs
                  have hcell := bools_cell harr (i := x.n.toNat) (by rw [H8.out]; omega)
                  have hfr := bools_frozen harr x.n.toNat
                  have q2 : x.n < 8 := by omega
                  cases hbn : bl.getD x.n.toNat false
                  · rw [hbn] at hcell
                    have hfail : Hid (KM stagger total (r ++ [⟨true, x.n, nw + x.later⟩]) (nw + x.later) since st (bl.set x.n.toNat true)) := hkm2.out.fail hN hNs h2 hbn
                    have hset : ((wr.setCell ⟨w.heap.size, x.n.toNat, none⟩ (.bool true)).alloc (.cells #[.int .i64 x.n, .int .i64 x.later] 31)).heap[w.heap.size]? = some (.cells ((bl.set x.n.toNat true).map Value.bool).toArray 29 (0, 0)) := (Below.heap_alloc _ _ _ (by simpa using hsz)).trans (bools_set harr x.n.toNat true)
                    have ho5 : OwP ((wr.setCell ⟨w.heap.size, x.n.toNat, none⟩ (.bool true)).alloc (.cells #[.int .i64 x.n, .int .i64 x.later] 31)) (w.heap.size + 1) A1 r.length c1 r := OwR.alloc ⟨ho.1, ho.2.set (fun z hz => by have := ho.2.row z hz; simp; omega) _⟩ _
                    have hb5 : Below w.heap.size w ((wr.setCell ⟨w.heap.size, x.n.toNat, none⟩ (.bool true)).alloc (.cells #[.int .i64 x.n, .int .i64 x.later] 31)) := (hb.setCell (p := ⟨w.heap.size, x.n.toNat, none⟩) (Nat.le_refl _) (.bool true)).alloc (by have := hb.size; simpa using this) _
                    have hs5 : w.heap.size + 1 ≤ ((wr.setCell ⟨w.heap.size, x.n.toNat, none⟩ (.bool true)).alloc (.cells #[.int .i64 x.n, .int .i64 x.later] 31)).heap.size := by simp; omega
                    go_wp2_with (first | (go_at_call 9; refine (May_any _ _ _ _ _ _ _).mono ?_; rintro e w' ⟨rfl, rfl⟩) | (at_builtin; refine wpList_appP _ rfl (.tmp 108) (.tmp 113) rfl (w.heap.size + 1) _ _ _ _ rfl (OwR.alloc ho5 _) _ _ _ _ _ rfl (Pcs.new1 _ _ (by simp) ⟨true, x.n, nw + x.later⟩ _) (by omega) (by simp; omega) ?_; intro A3 c3 w3 ho3 hg3 hr3))
                    go_roundg g
                    case measure => omega
                    case rel =>
                      refine ⟨k + 1, r ++ [⟨true, x.n, nw + x.later⟩], nw + x.later, since, st, bl.set x.n.toNat true, A3, c3, by omega, by simp; omega, by omega, by go_num, rfl, rfl, rfl, by simp, by simpa using ho3,
                        (hb5.alloc hb5.size _).grown hg3 (by have := hb5.size; simp at this ⊢; omega) (fun z hz => by have := ho5.2.row z hz; omega), by have := hg3.size; simp at this; omega, (hg3.block _ (by simp; omega) (fun e => by have := ho5.2.row _ e.symm; omega)).trans ((Below.heap_alloc _ _ _ (by simp; omega)).trans hset), hfail.out, ?_⟩
                      intro y hy
                      rcases List.mem_append.1 hy with hy | hy
                      · exact HOKR.out y hy
                      · simp at hy; subst hy; exact ⟨hxn, WalkArith.wf_i64 (by simp; omega)⟩
                  · rw [hbn] at hcell
                    go_wp2_with (first | (go_at_call 9; refine (May_any _ _ _ _ _ _ _).mono ?_; rintro e w' ⟨rfl, rfl⟩))
                    go_roundg g
                    case measure => omega
                    case rel => exact ⟨k + 1, r, nw + x.later, since, st, bl, A1, c1, by omega, by omega, by omega, by go_num, rfl, rfl, rfl, rfl, ho2, hb2, by simp; omega, harr2, hkm2.out, HOKR.out⟩
                · have dNs : decide (x.n < (st : Int)) = false := by simpa using hNs
                  go_wp2_with (first | (go_at_call 9; refine (May_any _ _ _ _ _ _ _).mono ?_; rintro e w' ⟨rfl, rfl⟩))
                  go_roundg g
                  case measure => omega
                  case rel => exact ⟨k + 1, r, nw + x.later, since, st, bl, A1, c1, by omega, by omega, by omega, by go_num, rfl, rfl, rfl, rfl, ho2, hb2, by simp; omega, harr2, hkm2.out, HOKR.out⟩
              · have dN : decide (0 ≤ x.n) = false := by simpa using hN
                go_wp2_with (first | (go_at_call 9; refine (May_any _ _ _ _ _ _ _).mono ?_; rintro e w' ⟨rfl, rfl⟩))
                go_roundg g
                case measure => omega
                case rel => exact ⟨k + 1, r, nw + x.later, since, st, bl, A1, c1, by omega, by omega, by omega, by go_num, rfl, rfl, rfl, rfl, ho2, hb2, by simp; omega, harr2, hkm2.out, HOKR.out⟩
            · -- it may
              have hml := may_later hmay (by omega) (by omega)
              have hm2 : mayB st total lb since stagger (nw + x.later + 1) = true := hml.1
              have hm3 : decide (total ≤ (st : Int)) = false := by simpa using hml.2
              have hm4 : (st : Int) < total := hml.2
              clear hml
              by_cases hN : 0 ≤ x.n
              · have dN : decide (0 ≤ x.n) = true := by simpa using hN
                by_cases hNs : x.n < (st : Int)
                · have dNs : decide (x.n < (st : Int)) = true := by simpa using hNs
                  have hcell := bools_cell harr (i := x.n.toNat) (by rw [H8.out]; omega)
                  have hfr := bools_frozen harr x.n.toNat
                  have q2 : x.n < 8 := by omega
                  cases hbn : bl.getD x.n.toNat false
                  · rw [hbn] at hcell
                    have hfail : Hid (KM stagger total (r ++ [⟨true, x.n, nw + x.later⟩]) (nw + x.later) since st (bl.set x.n.toNat true)) := hkm2.out.fail hN hNs h2 hbn
                    have hset : ((wr.setCell ⟨w.heap.size, x.n.toNat, none⟩ (.bool true)).alloc (.cells #[.int .i64 x.n, .int .i64 x.later] 31)).heap[w.heap.size]? = some (.cells ((bl.set x.n.toNat true).map Value.bool).toArray 29 (0, 0)) := (Below.heap_alloc _ _ _ (by simpa using hsz)).trans (bools_set harr x.n.toNat true)
                    have ho5 : OwP ((wr.setCell ⟨w.heap.size, x.n.toNat, none⟩ (.bool true)).alloc (.cells #[.int .i64 x.n, .int .i64 x.later] 31)) (w.heap.size + 1) A1 r.length c1 r := OwR.alloc ⟨ho.1, ho.2.set (fun z hz => by have := ho.2.row z hz; simp; omega) _⟩ _
                    have hb5 : Below w.heap.size w ((wr.setCell ⟨w.heap.size, x.n.toNat, none⟩ (.bool true)).alloc (.cells #[.int .i64 x.n, .int .i64 x.later] 31)) := (hb.setCell (p := ⟨w.heap.size, x.n.toNat, none⟩) (Nat.le_refl _) (.bool true)).alloc (by have := hb.size; simpa using this) _
                    have hs5 : w.heap.size + 1 ≤ ((wr.setCell ⟨w.heap.size, x.n.toNat, none⟩ (.bool true)).alloc (.cells #[.int .i64 x.n, .int .i64 x.later] 31)).heap.size := by simp; omega
                    go_wp2_with (first | (go_at_call 9; refine (May_any _ _ _ _ _ _ _).mono ?_; rintro e w' ⟨rfl, rfl⟩) | (at_builtin; refine wpList_appP _ rfl (.tmp 108) (.tmp 113) rfl (w.heap.size + 1) _ _ _ _ rfl (OwR.alloc ho5 _) _ _ _ _ _ rfl (Pcs.new1 _ _ (by simp) ⟨true, x.n, nw + x.later⟩ _) (by omega) (by simp; omega) ?_; intro A3 c3 w3 ho3 hg3 hr3))
                    go_roundg g
                    case measure => omega
                    case rel =>
                      refine ⟨k + 1, r ++ [⟨true, x.n, nw + x.later⟩], nw + x.later, since, st, bl.set x.n.toNat true, A3, c3, by omega, by simp; omega, by omega, by go_num, rfl, rfl, rfl, by simp, by simpa using ho3,
                        (hb5.alloc hb5.size _).grown hg3 (by have := hb5.size; simp at this ⊢; omega) (fun z hz => by have := ho5.2.row z hz; omega), by have := hg3.size; simp at this; omega, (hg3.block _ (by simp; omega) (fun e => by have := ho5.2.row _ e.symm; omega)).trans ((Below.heap_alloc _ _ _ (by simp; omega)).trans hset), hfail.out, ?_⟩
                      intro y hy
                      rcases List.mem_append.1 hy with hy | hy
                      · exact HOKR.out y hy
                      · simp at hy; subst hy; exact ⟨hxn, WalkArith.wf_i64 (by simp; omega)⟩
                  · rw [hbn] at hcell
                    go_wp2_with (first | (go_at_call 9; refine (May_any _ _ _ _ _ _ _).mono ?_; rintro e w' ⟨rfl, rfl⟩))
                    go_roundg g
                    case measure => omega
                    case rel => exact ⟨k + 1, r, nw + x.later, since, st, bl, A1, c1, by omega, by omega, by omega, by go_num, rfl, rfl, rfl, rfl, ho2, hb2, by simp; omega, harr2, hkm2.out, HOKR.out⟩
                · have dNs : decide (x.n < (st : Int)) = false := by simpa using hNs
                  go_wp2_with (first | (go_at_call 9; refine (May_any _ _ _ _ _ _ _).mono ?_; rintro e w' ⟨rfl, rfl⟩))
                  go_roundg g
                  case measure => omega
                  case rel => exact ⟨k + 1, r, nw + x.later, since, st, bl, A1, c1, by omega, by omega, by omega, by go_num, rfl, rfl, rfl, rfl, ho2, hb2, by simp; omega, harr2, hkm2.out, HOKR.out⟩
              · have dN : decide (0 ≤ x.n) = false := by simpa using hN
                have hstart : Hid (KM stagger total (r ++ [⟨false, st, nw + x.later⟩]) (nw + x.later) (nw + x.later) (st + 1) bl) := hkm2.out.start h2 (by rw [← HLB.out]; exact hmay)
                go_wp2_with (first | (go_at_call 9; refine (May_any _ _ _ _ _ _ _).mono ?_; rintro e w' ⟨rfl, rfl⟩) | (at_builtin; refine wpList_appP _ rfl (.tmp 116) (.tmp 120) rfl (w.heap.size + 1) _ _ _ _ rfl (ho2.alloc _) _ _ _ _ _ rfl (Pcs.new1 _ _ (by simp) ⟨false, (st : Int), nw + x.later⟩ _) (by omega) (by simp; omega) ?_; intro A3 c3 w3 ho3 hg3 hr3))
                go_roundg g
                case measure => omega
                case rel =>
                  refine ⟨k + 1, r ++ [⟨false, st, nw + x.later⟩], nw + x.later, nw + x.later, st + 1, bl, A3, c3, by omega, by simp; omega, by omega, by go_num, rfl, rfl, by go_num, by simp, by simpa using ho3,
                    (hb2.alloc hb2.size _).grown hg3 (by have := hb2.size; simp; omega) (fun z hz => by have := ho2.2.row z hz; omega), by have := hg3.size; simp at this; omega, (hg3.block _ (by simp; omega) (fun e => by have := ho2.2.row _ e.symm; omega)).trans ((Below.heap_alloc _ _ _ (by simp; omega)).trans harr2), hstart.out, ?_⟩
                  intro y hy
                  rcases List.mem_append.1 hy with hy | hy
                  · exact HOKR.out y hy
                  · simp at hy; subst hy; exact ⟨WalkArith.wf_i64 (by simp; omega), WalkArith.wf_i64 (by simp; omega)⟩

theorem cellsOf_Act : Try.prog.cellsOf 31 = 2 := by kernel_rfl
theorem dec_Act {H : Type} {enc : TypeId × Value → H} {W : World} (fuel : Nat) (cs : List Value) (y : DataW H × List MemPlace) (h : DataW.trod enc Try.prog W 0 (fun _ => true) true fuel 31 cs = some y) :
    ∃ x, cs = encAct x ∧ okAct x := by
  obtain ⟨xs, n, _, _, hl, hxl, hf⟩ := DataW.trod_struct Try.underlying31 h
  rw [cellsOf_Act] at hl
  match cs, hl with
  | [c0, c1], _ =>
    have h0 := hf 0 _ rfl
    have h1 := hf 1 _ rfl
    match xs, hxl with
    | [y0, y1], _ =>
      simp [cellsOf_int] at h0 h1
      obtain ⟨a0, e0, _, w0⟩ := DataW.trod_int Try.underlying3 h0
      obtain ⟨a1, e1, _, w1⟩ := DataW.trod_int Try.underlying3 h1
      simp only [List.cons.injEq, and_true] at e0 e1
      subst e0 e1
      exact ⟨⟨a0, a1⟩, rfl, w0, w1⟩

theorem PaceKeeps_walk (total stagger : Int) (A : Option Addr) (n c : Nat) (l : List ActR) (w : World) (hl : Acts w w.heap.size A n l) (hok : ∀ x ∈ l, okAct x) (hn : n ≤ 9223372036854775807) (_hnc : n ≤ c) :
    Calls Try.prog 4 #[.int .i64 total, .int .i64 stagger, .slice A n c] w fun e w' => e = .returned (.bool true) ∧ Below w.heap.size w w' := by
  rcases (by omega : 60 < n ∨ (n ≤ 60 ∧ total < 0) ∨ (n ≤ 60 ∧ 0 ≤ total ∧ 8 < total) ∨ (n ≤ 60 ∧ 0 ≤ total ∧ total ≤ 8 ∧ stagger < 0) ∨ (n ≤ 60 ∧ 0 ≤ total ∧ total ≤ 8 ∧ 0 ≤ stagger ∧ 100 < stagger) ∨
      (n ≤ 60 ∧ 0 ≤ total ∧ total ≤ 8 ∧ 0 ≤ stagger ∧ stagger ≤ 100)) with g1 | ⟨g1, g2⟩ | ⟨g1, g2, g3⟩ | ⟨g1, g2, g3, g4⟩ | ⟨g1, g2, g3, g4, g5⟩ | ⟨g1, g2, g3, g4, g5⟩
  · have d1 : decide ((60 : Int) < (n : Int)) = true := by simp; omega
    go_enter Try.func4, Try.ntmps4
    go_wp2_with (go_at_call 7; refine (wakes14_any _).mono ?_; rintro e w' ⟨rfl, hb⟩)
    go_ret
    exact ⟨rfl, hb⟩
  · have d1 : decide ((60 : Int) < (n : Int)) = false := by simp; omega
    have d2 : decide (total < 0) = true := by simp; omega
    go_enter Try.func4, Try.ntmps4
    go_wp2_with (go_at_call 7; refine (wakes14_any _).mono ?_; rintro e w' ⟨rfl, hb⟩)
    go_ret
    exact ⟨rfl, hb⟩
  · have d1 : decide ((60 : Int) < (n : Int)) = false := by simp; omega
    have d2 : decide (total < 0) = false := by simp; omega
    have d3 : decide (8 < total) = true := by simp; omega
    go_enter Try.func4, Try.ntmps4
    go_wp2_with (go_at_call 7; refine (wakes14_any _).mono ?_; rintro e w' ⟨rfl, hb⟩)
    go_ret
    exact ⟨rfl, hb⟩
  · have d1 : decide ((60 : Int) < (n : Int)) = false := by simp; omega
    have d2 : decide (total < 0) = false := by simp; omega
    have d3 : decide (8 < total) = false := by simp; omega
    have d4 : decide (stagger < 0) = true := by simp; omega
    go_enter Try.func4, Try.ntmps4
    go_wp2_with (go_at_call 7; refine (wakes14_any _).mono ?_; rintro e w' ⟨rfl, hb⟩)
    go_ret
    exact ⟨rfl, hb⟩
  · have d1 : decide ((60 : Int) < (n : Int)) = false := by simp; omega
    have d2 : decide (total < 0) = false := by simp; omega
    have d3 : decide (8 < total) = false := by simp; omega
    have d4 : decide (stagger < 0) = false := by simp; omega
    have d5 : decide (100 < stagger) = true := by simp; omega
    go_enter Try.func4, Try.ntmps4
    go_wp2_with (go_at_call 7; refine (wakes14_any _).mono ?_; rintro e w' ⟨rfl, hb⟩)
    go_ret
    exact ⟨rfl, hb⟩
  · exact PaceKeeps_in total stagger A n c l w hl hok g1 g2 g3 g4 g5
end Go.Proofs.Ytcmgcbkhjdeinaa
