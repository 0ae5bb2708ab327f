/-
  choose, at scars and whatever test; Heal and Fresh. Conditions: a slice argument reads as a list; the test's calls return and write nothing that was there.
-/
import Derived.Test.YtgpijomnnnjgkaaScar
import Derived.Test.YtgpijomnnnjgkaaAge
import Derived.OneCell
import Derived.Shelf.Abstract
import Derived.Deep.AppendLies
namespace Go.Proofs.Ytgpijomnnnjgkaa
open Go.RowKit Go.Shelf

theorem below_drewN {B : Nat} {w w' : World} (h : Below B w w') (m : Nat) : Below B w (w'.drewN m) := ⟨h.os, h.tape, h.output, h.size, h.block⟩
/-- One address in a block of its own. -/
def AdAt (w : World) (g : Nat) (x : Ad) : Prop := w.cell? ⟨g, 0, none⟩ = some (.int .i8 x.1) ∧ w.cell? ⟨g, 1, none⟩ = some (.int .u16 x.2.1) ∧ w.cell? ⟨g, 2, none⟩ = some (.int .u16 x.2.2.1) ∧ w.cell? ⟨g, 3, none⟩ = some (.int .u16 x.2.2.2.1) ∧ w.cell? ⟨g, 4, none⟩ = some (.int .u16 x.2.2.2.2.1) ∧ w.cell? ⟨g, 5, none⟩ = some (.int .u16 x.2.2.2.2.2.1) ∧ w.cell? ⟨g, 6, none⟩ = some (.int .u16 x.2.2.2.2.2.2.1) ∧ w.cell? ⟨g, 7, none⟩ = some (.int .u16 x.2.2.2.2.2.2.2.1) ∧ w.cell? ⟨g, 8, none⟩ = some (.int .u16 x.2.2.2.2.2.2.2.2.1) ∧ w.cell? ⟨g, 9, none⟩ = some (.int .i64 x.2.2.2.2.2.2.2.2.2)
set_option maxRecDepth 100000 in
set_option maxHeartbeats 2000000 in
theorem choose_any (fid : FuncId) (eg : ∀ args w, (callFunc fid args).run Try.prog w = .ok (.enter fid args) w) (caps : Array Value) (p : Sc → Bool) (A : Option Addr) (n c : Nat) (l : List Sc) (w : World) (hl : Scs w w.heap.size A n l) (hn : n ≤ 1000)
    (hf : ∀ (x : Sc) (wx : World), Below w.heap.size w wx → Calls Try.prog fid (#[.agg #[.int .i8 x.1.1, .int .u16 x.1.2.1, .int .u16 x.1.2.2.1, .int .u16 x.1.2.2.2.1, .int .u16 x.1.2.2.2.2.1, .int .u16 x.1.2.2.2.2.2.1, .int .u16 x.1.2.2.2.2.2.2.1, .int .u16 x.1.2.2.2.2.2.2.2.1, .int .u16 x.1.2.2.2.2.2.2.2.2.1, .int .i64 x.1.2.2.2.2.2.2.2.2.2, .int .i64 x.2]] ++ caps) wx fun e w' => e = .returned (.bool (p x)) ∧ Below wx.heap.size wx w') :
    Calls Try.prog 26 #[.slice A n c, .func (.func fid) #[] caps] w fun e w' => ∃ A' c', e = .returned (.slice A' (l.filter p).length c') ∧ OwSc w' w.heap.size A' (l.filter p).length c' (l.filter p) ∧ Below w.heap.size w w' := by
  have HL := Lib.hid hl.1
  have HF := Lib.hid hf
  clear hf
  go_enter Try.func26, Try.ntmps26
  go_wp2_with fail
  go_loopw [4, 9] (fun s4 s9 wr => ∃ (k m : Nat) (A' : Option Addr) (c' : Nat), k ≤ n ∧ m ≤ k ∧ s9 = .int .i64 k ∧ s4 = .slice A' m c' ∧ OwSc wr w.heap.size A' m c' ((l.take k).filter p) ∧ Below w.heap.size w wr) (fun _ s9 _ => n - (intOf s9).toNat)
  case atStart => exact ⟨0, 0, none, 0, Nat.zero_le _, Nat.le_refl _, rfl, rfl, OwR.nil_ _ _ _ _, Below.refl _ _⟩
  case round =>
    obtain ⟨k, m, A1, c1, hk, hmk, rfl, rfl, ho, hb⟩ := hrel
    by_cases hlt : k < n
    · obtain ⟨b, off, x, rfl, hbb, hx, hc0, hc1, hc2, hc3, hc4, hc5, hc6, hc7, hc8, hc9, hc10⟩ := Scs.cells (hl.below hb) hlt
      have hcall := HF.out x (wr.alloc (.cells #[.int .i8 x.1.1, .int .u16 x.1.2.1, .int .u16 x.1.2.2.1, .int .u16 x.1.2.2.2.1, .int .u16 x.1.2.2.2.2.1, .int .u16 x.1.2.2.2.2.2.1, .int .u16 x.1.2.2.2.2.2.2.1, .int .u16 x.1.2.2.2.2.2.2.2.1, .int .u16 x.1.2.2.2.2.2.2.2.2.1, .int .i64 x.1.2.2.2.2.2.2.2.2.2, .int .i64 x.2] 33)) (hb.alloc hb.size _)
      have hb1 := hb.alloc hb.size (.cells #[.int .i8 x.1.1, .int .u16 x.1.2.1, .int .u16 x.1.2.2.1, .int .u16 x.1.2.2.2.1, .int .u16 x.1.2.2.2.2.1, .int .u16 x.1.2.2.2.2.2.1, .int .u16 x.1.2.2.2.2.2.2.1, .int .u16 x.1.2.2.2.2.2.2.2.1, .int .u16 x.1.2.2.2.2.2.2.2.2.1, .int .i64 x.1.2.2.2.2.2.2.2.2.2, .int .i64 x.2] 33)
      have ho1 := ho.alloc (.cells #[.int .i8 x.1.1, .int .u16 x.1.2.1, .int .u16 x.1.2.2.1, .int .u16 x.1.2.2.2.1, .int .u16 x.1.2.2.2.2.1, .int .u16 x.1.2.2.2.2.2.1, .int .u16 x.1.2.2.2.2.2.2.1, .int .u16 x.1.2.2.2.2.2.2.2.1, .int .u16 x.1.2.2.2.2.2.2.2.2.1, .int .i64 x.1.2.2.2.2.2.2.2.2.2, .int .i64 x.2] 33)
      cases hp : p x
      · rw [hp] at hcall
        have hm : (l.take (k + 1)).filter p = (l.take k).filter p := by rw [take_succ_of hx.out, List.filter_append]; simp [hp]
        have HM := Lib.hid hm
        clear hm hp
        go_wp2_with (go_at_fn fid; refine hcall.mono ?_; rintro e w2 ⟨rfl, hb2⟩)
        have hbw := hb1.trans (hb2.mono hb1.size)
        have ho2 := OwR.below ho1 hb2
        clear hcall hb2 hb1 ho1
        go_roundw
        case rel => exact ⟨k + 1, m, A1, c1, by omega, by omega, by go_num, rfl, by rw [HM.out]; exact ho2, hbw⟩
        case measure => simp [intOf]; omega
      · rw [hp] at hcall
        have hm : (l.take (k + 1)).filter p = (l.take k).filter p ++ [x] := by rw [take_succ_of hx.out, List.filter_append]; simp [hp]
        have HM := Lib.hid hm
        clear hm hp
        go_upto_region 5 with (go_at_fn fid; refine hcall.mono ?_; rintro e w2 ⟨rfl, hb2⟩)
        have hbw := hb1.trans (hb2.mono hb1.size)
        have ho2 := OwR.below ho1 hb2
        have hk1 : w2.heap[wr.heap.size]? = some (.cells #[.int .i8 x.1.1, .int .u16 x.1.2.1, .int .u16 x.1.2.2.1, .int .u16 x.1.2.2.2.1, .int .u16 x.1.2.2.2.2.1, .int .u16 x.1.2.2.2.2.2.1, .int .u16 x.1.2.2.2.2.2.2.1, .int .u16 x.1.2.2.2.2.2.2.2.1, .int .u16 x.1.2.2.2.2.2.2.2.2.1, .int .i64 x.1.2.2.2.2.2.2.2.2.2, .int .i64 x.2] 33 (0, 0)) := (hb2.block wr.heap.size (by simp)).trans (heap_alloc_new wr _)
        obtain ⟨q0, q1, q2, q3, q4, q5, q6, q7, q8, q9, q10⟩ := sc_cells hk1
        have lw : wr.heap.size < w2.heap.size := by have := hb2.size; simp at this; omega
        clear hcall hb2 hb1 ho1 hk1
        go_wp2_with (at_builtin; refine wpList_appSc _ rfl (.tmp 16) (.tmp 18) rfl w.heap.size _ _ _ _ rfl (ho2.alloc _) _ _ _ _ [x] rfl (Scs.new1 _ _ (by simp) x _) (by omega) (by have := hbw.size; simp; omega) ?_; intro A3 c3 w3 ho3 hg3 hr3)
        have hbw3 : Below w.heap.size w w3 := (hbw.alloc hbw.size _).grown hg3 (by have := hbw.size; simp; omega) (fun g hg => (Ow.row ho2.2 g hg).1)
        rw [← HM.out] at ho3
        clear hg3 hr3
        go_wp2_with fail
        go_roundw
        case rel => exact ⟨k + 1, m + 1, A3, c3, by omega, by omega, by go_num, rfl, ho3, hbw3⟩
        case measure => simp [intOf]; omega
    · obtain rfl : k = n := by omega
      have ht : l.take k = l := List.take_of_length_le (by rw [HL.out]; omega)
      rw [ht] at ho
      have HM := Lib.hid ho.1
      clear ht
      go_wp2_with fail
      go_ret
      exact ⟨A1, c1, by rw [HM.out]; rfl, by rw [HM.out]; exact ho, hb⟩

/-! The closures that Heal, Fresh and Has hand over. -/
theorem freshC_any (x : Sc) (g1 g2 : Nat) (long now : Int) (w : World) (h1 : w.cell? ⟨g1, 0, none⟩ = some (.int .i64 long)) (h2 : w.cell? ⟨g2, 0, none⟩ = some (.int .i64 now)) :
    Calls Try.prog 29 #[.agg #[.int .i8 x.1.1, .int .u16 x.1.2.1, .int .u16 x.1.2.2.1, .int .u16 x.1.2.2.2.1, .int .u16 x.1.2.2.2.2.1, .int .u16 x.1.2.2.2.2.2.1, .int .u16 x.1.2.2.2.2.2.2.1, .int .u16 x.1.2.2.2.2.2.2.2.1, .int .u16 x.1.2.2.2.2.2.2.2.2.1, .int .i64 x.1.2.2.2.2.2.2.2.2.2, .int .i64 x.2], .pointer (some ⟨g1, 0, none⟩), .pointer (some ⟨g2, 0, none⟩)] w fun e w' => e = .returned (.bool (!oldB x.2 long now)) ∧ Below w.heap.size w w' := by
  have l1 := block_lt_of_cell h1
  have l2 := block_lt_of_cell h2
  go_enter Try.func29, Try.ntmps29
  go_wp2_with (go_at_call 30; refine (Old_any _ _ _ _).mono ?_; rintro e w' ⟨rfl, rfl⟩)
  go_ret
  exact ⟨rfl, Below.new_ _ _⟩
def freshR (long now : Int) (x : Sc) : Bool := !oldB x.2 long now
theorem Fresh_any (A : Option Addr) (n c : Nat) (l : List Sc) (long now : Int) (w : World) (hl : Scs w w.heap.size A n l) (hn : n ≤ 1000) :
    Calls Try.prog 14 #[.slice A n c, .int .i64 long, .int .i64 now] w fun e w' => ∃ A' c', e = .returned (.slice A' (l.filter (freshR long now)).length c') ∧ OwSc w' w.heap.size A' (l.filter (freshR long now)).length c' (l.filter (freshR long now)) ∧ Below w.heap.size w w' := by
  have eg := enters_of Try.func29 (by kernel_rfl) rfl
  go_enter Try.func14, Try.ntmps14
  go_wp2_with fail
  refine (choose_any 29 eg _ (freshR long now) A n c l _ ?_ hn ?_).mono ?_
  · exact ((hl.alloc (Nat.le_refl _) _).alloc (by first | omega | (simp; done) | (simp; omega)) _).more (by first | omega | (simp; done) | (simp; omega))
  · intro x wx hb
    exact freshC_any x _ _ long now wx ((hb.cell (p := ⟨w.heap.size, 0, none⟩) (by first | omega | (simp; done) | (simp; omega))).trans (by first | (simp; done) | (go_simp; done))) ((hb.cell (p := ⟨w.heap.size + 1, 0, none⟩) (by first | omega | (simp; done) | (simp; omega))).trans (by first | (simp; done) | (go_simp; done)))
  · rintro e w1 ⟨A1, c1, rfl, ho1, hb⟩
    have hbw : Below w.heap.size w w1 := ((Below.new_ _ _).alloc (by first | omega | (simp; done) | (simp; omega)) _).trans (hb.mono (by first | omega | (simp; done) | (simp; omega)))
    replace ho1 : OwSc w1 w.heap.size A1 (l.filter (freshR long now)).length c1 (l.filter (freshR long now)) := ⟨ho1.1, Ow.rebase ho1.2 (by first | omega | (simp; done) | (simp; omega))⟩
    clear hb
    go_wp2_with fail
    go_ret
    exact ⟨A1, c1, rfl, ho1, hbw⟩
end Go.Proofs.Ytgpijomnnnjgkaa
