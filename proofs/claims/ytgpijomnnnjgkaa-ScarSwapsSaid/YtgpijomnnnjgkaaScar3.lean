/-
  Addresses in a row: slices.Contains; Heal; what Has, Worst, Same ask. Conditions: a slice argument reads as a list of at most 1000.
-/
import Derived.Test.YtgpijomnnnjgkaaScar2
namespace Go.Proofs.Ytgpijomnnnjgkaa
open Go.RowKit Go.Shelf

set_option maxRecDepth 100000 in
set_option maxHeartbeats 1600000 in
theorem IndexAd_any (A : Option Addr) (n c B : Nat) (l : List Ad) (x : Ad) (w : World) (hl : Ads w B A n l) (hB : B ≤ w.heap.size) (hn : n ≤ 1000) :
    Calls Try.prog 35 #[.slice A n c, .agg #[.int .i8 x.1, .int .u16 x.2.1, .int .u16 x.2.2.1, .int .u16 x.2.2.2.1, .int .u16 x.2.2.2.2.1, .int .u16 x.2.2.2.2.2.1, .int .u16 x.2.2.2.2.2.2.1, .int .u16 x.2.2.2.2.2.2.2.1, .int .u16 x.2.2.2.2.2.2.2.2.1, .int .i64 x.2.2.2.2.2.2.2.2.2]] w fun e w' => ∃ r : Int, e = .returned (.int .i64 r) ∧ decide (0 ≤ r) = decide (x ∈ l) ∧ Below w.heap.size w w' := by
  have HL := Lib.hid hl.1
  have hl2 := hl.alloc hB (.cells #[.int .i8 x.1, .int .u16 x.2.1, .int .u16 x.2.2.1, .int .u16 x.2.2.2.1, .int .u16 x.2.2.2.2.1, .int .u16 x.2.2.2.2.2.1, .int .u16 x.2.2.2.2.2.2.1, .int .u16 x.2.2.2.2.2.2.2.1, .int .u16 x.2.2.2.2.2.2.2.2.1, .int .i64 x.2.2.2.2.2.2.2.2.2] 31)
  go_enter Try.func35, Try.ntmps35
  go_wp2
  go_loopw [8] (fun s8 wr => ∃ k : Nat, k ≤ n ∧ s8 = .int .i64 k ∧ Hid (x ∉ l.take k) ∧ ∃ nq, wr = (w.alloc (.cells #[.int .i8 x.1, .int .u16 x.2.1, .int .u16 x.2.2.1, .int .u16 x.2.2.2.1, .int .u16 x.2.2.2.2.1, .int .u16 x.2.2.2.2.2.1, .int .u16 x.2.2.2.2.2.2.1, .int .u16 x.2.2.2.2.2.2.2.1, .int .u16 x.2.2.2.2.2.2.2.2.1, .int .i64 x.2.2.2.2.2.2.2.2.2] 31)).drewN nq) (fun s8 _ => n - (intOf s8).toNat)
  case atStart => exact ⟨0, Nat.zero_le _, rfl, by show _ ∉ _; simp, 0, rfl⟩
  case round =>
    obtain ⟨k, hk, rfl, hno, nq, rfl⟩ := hrel
    by_cases hlt : k < n
    · obtain ⟨b, off, y, rfl, hbb, hy, hc0, hc1, hc2, hc3, hc4, hc5, hc6, hc7, hc8, hc9⟩ := Ads.cells hl2 hlt
      have hE := fun wx => eqAd x y wx
      by_cases hxy : x = y
      · rw [decide_eq_true hxy] at hE
        unfold valAd at hE
        have hres : decide ((0 : Int) ≤ (k : Int)) = decide (x ∈ l) := by
          have : x ∈ l := by rw [hxy]; exact List.mem_of_getElem? hy.out
          simp [this]
        have HR := Lib.hid hres
        have HX := Lib.hid hxy
        clear hres hxy
        go_wp2
        go_quiet (fail)
        go_wp2
        go_ret
        exact ⟨k, rfl, HR.out, below_drewN (below_drewN (Below.new_ _ _) _) _⟩
      · rw [decide_eq_false hxy] at hE
        unfold valAd at hE
        have hno2 : Hid (x ∉ l.take (k + 1)) := by
          show x ∉ _
          rw [take_succ_of hy.out]
          simp only [List.mem_append, List.mem_singleton, not_or]
          exact ⟨hno.out, hxy⟩
        have HX := Lib.hid hxy
        clear hxy
        go_wp2
        go_quiet (fail)
        go_wp2
        go_roundw
        case rel => exact ⟨k + 1, by omega, by go_num, hno2, _, rfl⟩
        case measure => simp [intOf]; omega
    · have hres : decide ((0 : Int) ≤ -1) = decide (x ∈ l) := by
        have := hno.out
        rw [List.take_of_length_le (by rw [HL.out]; omega)] at this
        simp [this]
      have HR := Lib.hid hres
      clear hres
      go_wp2
      go_ret
      exact ⟨-1, rfl, HR.out, below_drewN (Below.new_ _ _) _⟩
set_option maxRecDepth 100000 in
set_option maxHeartbeats 800000 in
theorem ContainsAd_any (A : Option Addr) (n c : Nat) (l : List Ad) (x : Ad) (w : World) (hl : Ads w w.heap.size A n l) (hn : n ≤ 1000) :
    Calls Try.prog 28 #[.slice A n c, .agg #[.int .i8 x.1, .int .u16 x.2.1, .int .u16 x.2.2.1, .int .u16 x.2.2.2.1, .int .u16 x.2.2.2.2.1, .int .u16 x.2.2.2.2.2.1, .int .u16 x.2.2.2.2.2.2.1, .int .u16 x.2.2.2.2.2.2.2.1, .int .u16 x.2.2.2.2.2.2.2.2.1, .int .i64 x.2.2.2.2.2.2.2.2.2]] w fun e w' => e = .returned (.bool (decide (x ∈ l))) ∧ Below w.heap.size w w' := by
  go_enter Try.func28, Try.ntmps28
  go_wp2_with fail
  refine (IndexAd_any A n c w.heap.size l x _ (hl.alloc (Nat.le_refl _) _) (by simp) hn).mono ?_
  rintro e w1 ⟨r, rfl, hr, hb⟩
  have HR := Lib.hid hr
  have hbw := (Below.new_ w _).trans (hb.mono (by simp))
  clear hr hb
  go_wp2_with fail
  go_ret
  exact ⟨ret_bool HR.out, hbw⟩
set_option maxRecDepth 100000 in
set_option maxHeartbeats 800000 in
theorem healC_any (x : Sc) (g1 : Nat) (A : Option Addr) (n c : Nat) (l : List Ad) (w : World) (h1 : w.cell? ⟨g1, 0, none⟩ = some (.slice A n c)) (hl : Ads w w.heap.size A n l) (hn : n ≤ 1000) :
    Calls Try.prog 27 #[.agg #[.int .i8 x.1.1, .int .u16 x.1.2.1, .int .u16 x.1.2.2.1, .int .u16 x.1.2.2.2.1, .int .u16 x.1.2.2.2.2.1, .int .u16 x.1.2.2.2.2.2.1, .int .u16 x.1.2.2.2.2.2.2.1, .int .u16 x.1.2.2.2.2.2.2.2.1, .int .u16 x.1.2.2.2.2.2.2.2.2.1, .int .i64 x.1.2.2.2.2.2.2.2.2.2, .int .i64 x.2], .pointer (some ⟨g1, 0, none⟩)] w fun e w' => e = .returned (.bool (!decide (x.1 ∈ l))) ∧ Below w.heap.size w w' := by
  have l1 := block_lt_of_cell h1
  go_enter Try.func27, Try.ntmps27
  go_wp2_with fail
  refine (ContainsAd_any A n c l x.1 _ ((hl.alloc (Nat.le_refl _) _).more (by simp)) hn).mono ?_
  rintro e w1 ⟨rfl, hb⟩
  have hbw := (Below.new_ w _).trans (hb.mono (by simp))
  clear hb
  go_wp2_with fail
  go_ret
  exact ⟨rfl, hbw⟩
def healR (a : List Ad) (x : Sc) : Bool := !decide (x.1 ∈ a)
def healL (l : List Sc) (a : List Ad) : List Sc := l.filter (healR a)
set_option maxHeartbeats 800000 in
theorem Heal_any (A : Option Addr) (n c : Nat) (l : List Sc) (As : Option Addr) (ns cs : Nat) (ls : List Ad) (w : World) (hl : Scs w w.heap.size A n l) (hn : n ≤ 1000) (hs : Ads w w.heap.size As ns ls) (hns : ns ≤ 1000) :
    Calls Try.prog 13 #[.slice A n c, .slice As ns cs] w fun e w' => ∃ A' c', e = .returned (.slice A' (healL l ls).length c') ∧ OwSc w' w.heap.size A' (healL l ls).length c' (healL l ls) ∧ Below w.heap.size w w' := by
  have eg := enters_of Try.func27 (by kernel_rfl) rfl
  go_enter Try.func13, Try.ntmps13
  go_wp2_with fail
  refine (choose_any 27 eg _ (healR ls) A n c l _ ?_ hn ?_).mono ?_
  · exact (hl.alloc (Nat.le_refl _) _).more (by first | omega | (simp; done) | (simp; omega))
  · intro x wx hb
    exact healC_any x _ As ns cs ls wx ((hb.cell (p := ⟨w.heap.size, 0, none⟩) (by first | omega | (simp; done) | (simp; omega))).trans (by first | (simp; done) | (go_simp; done))) ((hs.alloc (Nat.le_refl _) _).below' hb (by first | omega | (simp; done) | (simp; omega)) |>.more (Nat.le_trans (by first | omega | (simp; done) | (simp; omega)) hb.size)) hns
  · rintro e w1 ⟨A1, c1, rfl, ho1, hb⟩
    have hbw : Below w.heap.size w w1 := (Below.new_ _ _).trans (hb.mono (by first | omega | (simp; done) | (simp; omega)))
    replace ho1 : OwSc w1 w.heap.size A1 (healL l ls).length c1 (healL l ls) := ⟨ho1.1, Ow.rebase ho1.2 (by first | omega | (simp; done) | (simp; omega))⟩
    clear hb
    go_wp2_with fail
    go_ret
    exact ⟨A1, c1, rfl, ho1, hbw⟩
end Go.Proofs.Ytgpijomnnnjgkaa
