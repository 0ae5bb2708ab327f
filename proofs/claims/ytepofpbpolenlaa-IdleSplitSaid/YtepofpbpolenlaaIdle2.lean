/-
  What idle.Old, Drop, Socks, Has, Last, Same compute, each as one contract over the translated program. Conditions: a slice argument reads as a list, of at most 1000 pairs or numbers.
-/
import Derived.Test.YtepofpbpolenlaaIdle
import Derived.Test.YtepofpbpolenlaaFuncsI
import Derived.Test.YtepofpbpolenlaaAge
import Derived.Test.YtepofpbpolenlaaRestEq
namespace Go.Proofs.Ytepofpbpolenlaa
open Go.RowKit Go.Shelf

theorem Recs.take1 {α : Type} {enc : α → List Value} {k : Nat} (hk : ∀ x, (enc x).length = k) {w : World} {B n c : Nat} {A : Option Addr} {xs : List α} (h : Recs enc k w B A n xs) (hc : c ≤ n) : Recs enc k w B A c (xs.take c) := by
  have hl := h.1
  refine ⟨by rw [List.length_take]; omega, by rw [flatMap_len hk, List.length_take, Nat.min_eq_left (by omega)], fun h0 hk0 => ?_⟩
  obtain ⟨b, off, e, hb, hcell⟩ := h.2.2 (by omega) hk0
  refine ⟨b, off, e, hb, fun j u hu => hcell j u ?_⟩
  have hp : xs.flatMap enc = (xs.take c).flatMap enc ++ (xs.drop c).flatMap enc := by rw [← List.flatMap_append, List.take_append_drop]
  rw [hp, List.getElem?_append_left (List.getElem?_eq_some_iff.1 hu).1]
  exact hu

theorem oldC_any (x : Re) (g1 g2 : Nat) (long now : Int) (w : World) (h1 : w.cell? ⟨g1, 0, none⟩ = some (.int .i64 long)) (h2 : w.cell? ⟨g2, 0, none⟩ = some (.int .i64 now)) :
    Calls Try.prog 37 #[.agg #[.int .i64 x.1, .int .i64 x.2], .pointer (some ⟨g1, 0, none⟩), .pointer (some ⟨g2, 0, none⟩)] w fun e w' => e = .returned (.bool (oldB x.2 long now)) ∧ Below w.heap.size w w' := by
  have l1 := block_lt_of_cell h1
  have l2 := block_lt_of_cell h2
  go_enter Try.func37, Try.ntmps37
  go_wp2_with (go_at_call 38; refine (Old_any _ _ _ _).mono ?_; rintro e w' ⟨rfl, rfl⟩)
  go_ret
  exact ⟨rfl, Below.new_ _ _⟩

def oldR (long now : Int) (x : Re) : Bool := oldB x.2 long now
set_option maxHeartbeats 800000 in
theorem Old_row (A : Option Addr) (n c : Nat) (l : List Re) (long now : Int) (w : World) (hl : Res w w.heap.size A n l) (hn : n ≤ 1000) :
    Calls Try.prog 16 #[.slice A n c, .int .i64 long, .int .i64 now] w fun e w' => ∃ A1 c1 A2 c2, e = .returned (.tuple #[.slice A1 (l.filter (oldR long now)).length c1, .slice A2 (l.filter (fun x => !oldR long now x)).length c2]) ∧
      OwRe w' w.heap.size A1 (l.filter (oldR long now)).length c1 (l.filter (oldR long now)) ∧ OwRe w' w.heap.size A2 (l.filter (fun x => !oldR long now x)).length c2 (l.filter (fun x => !oldR long now x)) ∧ Below w.heap.size w w' := by
  have eg := enters_of Try.func37 (by kernel_rfl) rfl
  go_enter Try.func16, Try.ntmps16
  go_wp2_with fail
  refine (Part_any 37 eg _ (oldR long now) (w.heap.size + 1 + 1) A n c l _ ?_ ?_ ?_ hn ?_).mono ?_
  · simp
  · exact (by first | (simp; done) | (go_simp; done))
  · exact (((hl.alloc (Nat.le_refl _) _).alloc (by first | omega | (simp; done) | (simp; omega)) _).alloc (by first | omega | (simp; done) | (simp; omega)) _).more (by first | omega | (simp; done) | (simp; omega))
  · intro x wx hb
    exact oldC_any x _ _ long now wx ((hb.cell (p := ⟨w.heap.size, 0, none⟩) (by first | omega | (simp; done) | (simp; omega))).trans (by first | (simp; done) | (go_simp; done))) ((hb.cell (p := ⟨w.heap.size + 1, 0, none⟩) (by first | omega | (simp; done) | (simp; omega))).trans (by first | (simp; done) | (go_simp; done)))
  · rintro e w1 ⟨A1, c1, A2, c2, rfl, ho1, ho2, hb⟩
    have hbw : Below w.heap.size w w1 := (((Below.new_ _ _).alloc (by first | omega | (simp; done) | (simp; omega)) _).alloc (by first | omega | (simp; done) | (simp; omega)) _).trans (hb.mono (by first | omega | (simp; done) | (simp; omega)))
    replace ho1 : OwRe w1 w.heap.size A1 (l.filter (oldR long now)).length c1 (l.filter (oldR long now)) := ⟨ho1.1, Ow.rebase ho1.2 (by first | omega | (simp; done) | (simp; omega))⟩
    replace ho2 : OwRe w1 w.heap.size A2 (l.filter (fun x => !oldR long now x)).length c2 (l.filter (fun x => !oldR long now x)) := ⟨ho2.1, Ow.rebase ho2.2 (by first | omega | (simp; done) | (simp; omega))⟩
    clear hb
    go_wp2_with fail
    go_ret2
    exact ⟨A1, c1, A2, c2, rfl, ho1, ho2, hbw⟩

theorem dropC_any (x : Re) (g1 : Nat) (A : Option Addr) (n c : Nat) (l : List Int) (w : World) (h1 : w.cell? ⟨g1, 0, none⟩ = some (.slice A n c)) (hl : Ints w w.heap.size A n l) (hn : n ≤ 1000) :
    Calls Try.prog 39 #[.agg #[.int .i64 x.1, .int .i64 x.2], .pointer (some ⟨g1, 0, none⟩)] w fun e w' => e = .returned (.bool (decide (x.1 ∈ l))) ∧ Below w.heap.size w w' := by
  have l1 := block_lt_of_cell h1
  go_enter Try.func39, Try.ntmps39
  go_wp2_with (go_at_call 33; refine (ContainsI_any _ _ _ _ l _ _ (hl.alloc (Nat.le_refl _) _) (by omega)).mono ?_; rintro e w' ⟨rfl, rfl⟩)
  go_ret
  exact ⟨rfl, Below.new_ _ _⟩
def inR (l : List Int) (x : Re) : Bool := decide (x.1 ∈ l)
set_option maxHeartbeats 800000 in
theorem Drop_row (A : Option Addr) (n c : Nat) (l : List Re) (As : Option Addr) (ns cs : Nat) (ls : List Int) (w : World) (hl : Res w w.heap.size A n l) (hn : n ≤ 1000) (hs : Ints w w.heap.size As ns ls) (hns : ns ≤ 1000) :
    Calls Try.prog 18 #[.slice A n c, .slice As ns cs] w fun e w' => ∃ A2 c2, e = .returned (.tuple #[.slice A2 (l.filter (fun x => !inR ls x)).length c2, .int .i64 (l.filter (inR ls)).length]) ∧
      OwRe w' w.heap.size A2 (l.filter (fun x => !inR ls x)).length c2 (l.filter (fun x => !inR ls x)) ∧ Below w.heap.size w w' := by
  have eg := enters_of Try.func39 (by kernel_rfl) rfl
  go_enter Try.func18, Try.ntmps18
  go_wp2_with fail
  refine (Part_any 39 eg _ (inR ls) (w.heap.size + 1) A n c l _ ?_ ?_ ?_ hn ?_).mono ?_
  · simp
  · exact (by first | (simp; done) | (go_simp; done))
  · exact ((hl.alloc (Nat.le_refl _) _).alloc (by first | omega | (simp; done) | (simp; omega)) _).more (by first | omega | (simp; done) | (simp; omega))
  · intro x wx hb
    exact dropC_any x _ As ns cs ls wx ((hb.cell (p := ⟨w.heap.size, 0, none⟩) (by first | omega | (simp; done) | (simp; omega))).trans (by first | (simp; done) | (go_simp; done))) (((hs.alloc (Nat.le_refl _) _).alloc (by first | omega | (simp; done) | (simp; omega)) _).below' hb (by first | omega | (simp; done) | (simp; omega)) |>.more (Nat.le_trans (by first | omega | (simp; done) | (simp; omega)) hb.size)) hns
  · rintro e w1 ⟨A1, c1, A2, c2, rfl, ho1, ho2, hb⟩
    have hbw : Below w.heap.size w w1 := ((Below.new_ _ _).alloc (by first | omega | (simp; done) | (simp; omega)) _).trans (hb.mono (by first | omega | (simp; done) | (simp; omega)))
    replace ho2 : OwRe w1 w.heap.size A2 (l.filter (fun x => !inR ls x)).length c2 (l.filter (fun x => !inR ls x)) := ⟨ho2.1, Ow.rebase ho2.2 (by first | omega | (simp; done) | (simp; omega))⟩
    have hlen : (l.filter (inR ls)).length ≤ 1000 := Nat.le_trans (List.length_filter_le _ _) (by rw [hl.1]; exact hn)
    clear hb ho1
    go_wp2_with fail
    go_ret2
    exact ⟨A2, c2, rfl, ho2, hbw⟩

set_option maxHeartbeats 800000 in
theorem Socks_any (A : Option Addr) (n c : Nat) (l : List Re) (w : World) (hl : Res w w.heap.size A n l) (hn : n ≤ 1000) :
    Calls Try.prog 11 #[.slice A n c] w fun e w' => ∃ A' c', e = .returned (.slice A' n c') ∧ OwI w' w.heap.size 3 A' n c' (l.map (·.1)) ∧ Below w.heap.size w w' := by
  have HL := Lib.hid hl.1
  go_enter Try.func11, Try.ntmps11
  go_wp2_with fail
  go_loopw [2, 7] (fun s2 s7 wr => ∃ (k : Nat) (A' : Option Addr) (c' : Nat), k ≤ n ∧ s7 = .int .i64 k ∧ s2 = .slice A' k c' ∧ OwI wr w.heap.size 3 A' k c' ((l.take k).map (·.1)) ∧ Below w.heap.size w wr) (fun _ s7 _ => n - (intOf s7).toNat)
  case atStart => exact ⟨0, none, 0, Nat.zero_le _, rfl, rfl, OwI.nil_ _ _ _ _, Below.refl _ _⟩
  case round =>
    obtain ⟨k, A1, c1, hk, rfl, rfl, ho, hb⟩ := hrel
    by_cases hlt : k < n
    · obtain ⟨b, off, x, rfl, hbb, hx, hc1, hc2⟩ := Res.cells (hl.below hb) hlt
      go_wp2_with (at_builtin; refine wpList_appI _ rfl (.tmp 11) (.tmp 14) rfl w.heap.size _ _ _ _ rfl ((ho.alloc _).alloc _) _ _ _ _ _ rfl (Ints.at1_ _ _ _ _ (by first | omega | (simp; done) | (simp; omega))) (by omega) (by have := hb.size; simp; omega) ?_; intro A2 c2 w2 ho2 hg2 hr2)
      have hbw : Below w.heap.size w w2 := ((hb.alloc hb.size _).alloc (by have := hb.size; simp; omega) _).grown hg2 (by have := hb.size; simp; omega) (fun g hg => (Ow.row ho g hg).1)
      have hm : (l.take (k + 1)).map (·.1) = (l.take k).map (·.1) ++ [x.1] := by rw [take_succ_of hx.out]; simp
      rw [← hm] at ho2
      clear hg2 hr2 hm
      go_wp2_with fail
      go_roundw
      case rel => exact ⟨k + 1, A2, c2, by omega, by go_num, rfl, ho2, hbw⟩
      case measure => simp [intOf]; omega
    · obtain rfl : k = n := by omega
      have ht : l.take k = l := List.take_of_length_le (by rw [HL.out]; omega)
      rw [ht] at ho
      clear ht
      go_wp2_with fail
      go_ret
      exact ⟨A1, c1, rfl, ho, hb⟩

theorem hasC_any (x : Int) (g1 : Nat) (A : Option Addr) (n c : Nat) (l : List Re) (w : World) (h1 : w.cell? ⟨g1, 0, none⟩ = some (.slice A n c)) (hl : Res w w.heap.size A n l) (hn : n ≤ 1000) :
    Calls Try.prog 32 #[.int .i64 x, .pointer (some ⟨g1, 0, none⟩)] w fun e w' => e = .returned (.bool (!decide (x ∈ l.map (·.1)))) ∧ Below w.heap.size w w' := by
  have l1 := block_lt_of_cell h1
  go_enter Try.func32, Try.ntmps32
  go_wp2_with fail
  refine (Socks_any A n c l _ hl hn).mono ?_
  rintro e w1 ⟨A1, c1, rfl, ho, hb⟩
  go_wp2_with (go_at_call 33; refine (ContainsI_any _ _ _ _ _ _ _ ho.ints (by omega)).mono ?_; rintro e w' ⟨rfl, rfl⟩)
  go_ret
  exact ⟨rfl, hb⟩
def hasAll (l : List Re) (ls : List Int) : Bool := !(ls.any fun x => !decide (x ∈ l.map (·.1)))
set_option maxHeartbeats 800000 in
theorem Has_row (A : Option Addr) (n c : Nat) (l : List Re) (As : Option Addr) (ns cs : Nat) (ls : List Int) (w : World) (hl : Res w w.heap.size A n l) (hn : n ≤ 1000) (hs : Ints w w.heap.size As ns ls) (hns : ns ≤ 1000) :
    Calls Try.prog 12 #[.slice A n c, .slice As ns cs] w fun e w' => e = .returned (.bool (hasAll l ls)) ∧ Below w.heap.size w w' := by
  have eg := enters_of Try.func32 (by kernel_rfl) rfl
  go_enter Try.func12, Try.ntmps12
  go_wp2_with fail
  refine (ContainsFuncI_any 32 eg _ (fun x => !decide (x ∈ l.map (·.1))) As ns cs ls _ ?_ (by omega) ?_).mono ?_
  · exact (hs.alloc (Nat.le_refl _) _).more (by first | omega | (simp; done) | (simp; omega))
  · intro x wx hb
    exact hasC_any x _ A n c l wx ((hb.cell (p := ⟨w.heap.size, 0, none⟩) (by first | omega | (simp; done) | (simp; omega))).trans (by first | (simp; done) | (go_simp; done))) ((hl.alloc (Nat.le_refl _) _).below' hb (by first | omega | (simp; done) | (simp; omega)) |>.more (Nat.le_trans (by first | omega | (simp; done) | (simp; omega)) hb.size)) hn
  · rintro e w1 ⟨rfl, hb⟩
    have hbw : Below w.heap.size w w1 := (Below.new_ _ _).trans (hb.mono (by first | omega | (simp; done) | (simp; omega)))
    clear hb
    go_wp2_with fail
    go_ret
    exact ⟨rfl, hbw⟩
theorem SameR_any (A1 A2 : Option Addr) (n1 n2 c1 c2 : Nat) (a b : List Re) (w : World) (ha : Res w w.heap.size A1 n1 a) (hb : Res w w.heap.size A2 n2 b) (hn1 : n1 ≤ 1000) (hn2 : n2 ≤ 1000) :
    Calls Try.prog 28 #[.slice A1 n1 c1, .slice A2 n2 c2] w fun e w' => e = .returned (.bool (decide (a = b))) ∧ Below w.heap.size w w' := by
  go_enter Try.func28, Try.ntmps28
  go_wp2_with fail
  refine (EqualR_any _ _ _ _ _ _ _ _ a b _ ha hb (by omega) (by omega)).mono ?_
  rintro e w1 ⟨rfl, hb1⟩
  go_wp2_with fail
  go_ret
  exact ⟨rfl, hb1⟩
end Go.Proofs.Ytepofpbpolenlaa
