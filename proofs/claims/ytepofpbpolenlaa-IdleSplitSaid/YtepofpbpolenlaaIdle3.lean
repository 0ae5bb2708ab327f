/-
  What idle.Last, When, Put compute, each as one contract over the translated program. Conditions: a slice argument reads as a list, of at most 1000 pairs or numbers.
-/
import Derived.Test.YtepofpbpolenlaaIdle2
import Derived.Deep.RegionWith
namespace Go.Proofs.Ytepofpbpolenlaa
open Go.RowKit Go.Shelf

theorem two_cells {w : World} {g : Nat} {a b : Value} {t : TypeId} (h : w.heap[g]? = some (.cells #[a, b] t (0, 0))) :
    w.cell? ⟨g, 0, none⟩ = some a ∧ w.cell? ⟨g, 1, none⟩ = some b ∧ w.frozen? ⟨g, 0, none⟩ = false ∧ w.frozen? ⟨g, 1, none⟩ = false :=
  ⟨by simp [World.cell?, h], by simp [World.cell?, h], by simp [World.frozen?, h], by simp [World.frozen?, h]⟩
theorem two_set0 {w : World} {g : Nat} {a b u : Value} {t : TypeId} (h : w.heap[g]? = some (.cells #[a, b] t (0, 0))) : (w.setCell ⟨g, 0, none⟩ u).heap[g]? = some (.cells #[u, b] t (0, 0)) := by
  simp [World.setCell, Array.getElem?_modify, h]
theorem two_set1 {w : World} {g : Nat} {a b u : Value} {t : TypeId} (h : w.heap[g]? = some (.cells #[a, b] t (0, 0))) : (w.setCell ⟨g, 1, none⟩ u).heap[g]? = some (.cells #[a, u] t (0, 0)) := by
  simp [World.setCell, Array.getElem?_modify, h]

def lastRe (l : List Re) : Re := l.getD (l.length - 1) (0, 0)
set_option maxHeartbeats 1000000 in
theorem Last_any (A : Option Addr) (n c : Nat) (l : List Re) (w : World) (hl : Res w w.heap.size A n l) (hn : n ≤ 1000) (hnc : n ≤ c) :
    Calls Try.prog 13 #[.slice A n c] w fun e w' => ∃ A' c', e = .returned (.tuple #[.agg #[.int .i64 (lastRe l).1, .int .i64 (lastRe l).2], .slice A' (n - 1) c', .bool (decide (0 < n))]) ∧ OwRe w' w.heap.size A' (n - 1) c' (l.take (n - 1)) ∧ Below w.heap.size w w' := by
  have HLN := Lib.hid hl.1
  rcases Nat.eq_zero_or_pos n with h0 | h0
  · have hb0 : ((n : Int) == 0) = true := by simp; omega
    have hl0 : l = [] := List.eq_nil_of_length_eq_zero (by rw [hl.1]; exact h0)
    subst hl0 h0
    go_enter Try.func13, Try.ntmps13
    go_wp2
    exact bodyPost_ret (v := .tuple #[.agg #[.int .i64 0, .int .i64 0], .slice none 0 0, .bool false]) (by simp [results, Try.results13, go_sem]) rfl ⟨none, 0, rfl, OwR.nil_ _ _ _ _, Below.new_ _ _⟩
  · have hr := Recs.take1 encRe_len hl (Nat.sub_le n 1)
    obtain ⟨b, off, x, rfl, hbb, hx, hc1, hc2⟩ := Res.cells hl (show n - 1 < n by omega)
    have hb0 : ((n : Int) == 0) = false := by simp; omega
    have hh : lastRe l = x := by unfold lastRe; rw [HLN.out, List.getD_eq_getElem?_getD, hx.out]; rfl
    have hd : decide (0 < n) = true := by simpa using h0
    have HH := Lib.hid hh
    have HD := Lib.hid hd
    clear hh hd
    have i1 : (1 : Int) ≤ (n : Int) := by omega
    have i2 : (0 : Int) ≤ (n : Int) - 1 := by omega
    have i3 : (n : Int) - 1 < (n : Int) := by omega
    have i4 : (n : Int) - 1 ≤ (c : Int) := by omega
    have i5 : ((n : Int) - 1).toNat = n - 1 := by omega
    have i6 : IntKind.i64.wrap ((n : Int) - 1) = (n : Int) - 1 := IntWalk.i64_in _ (by omega)
    have hn1 : Hid (n - 1 ≤ 100000) := Nat.le_trans (Nat.sub_le n 1) (by omega)
    have hrA := (hr.alloc (Nat.le_refl _) (.cells #[.int .i64 0, .int .i64 0] 32)).drew
    have hbw0 : Below w.heap.size w (w.alloc (.cells #[.int .i64 0, .int .i64 0] 32)).drew := (Below.new_ _ _).drew
    go_enter Try.func13, Try.ntmps13
    go_wp2_with fail
    go_region_with (go_at_call 29; refine (CloneRe_any _ _ _ w.heap.size (l.take (n - 1)) _ hrA hn1.out).mono ?_; rintro e w1 ⟨A3, c3, rfl, ho, hb⟩; have hc1 : w1.cell? ⟨b, off + (n - 1) * 2, none⟩ = some (.int .i64 x.1) := ((hbw0.trans (hb.mono (by simp))).cell (p := ⟨b, off + (n - 1) * 2, none⟩) hbb).trans hc1; have hc2 : w1.cell? ⟨b, off + (n - 1) * 2 + 1, none⟩ = some (.int .i64 x.2) := ((hbw0.trans (hb.mono (by simp))).cell (p := ⟨b, off + (n - 1) * 2 + 1, none⟩) hbb).trans hc2; have hk1 : w1.heap[w.heap.size]? = some (.cells #[.int .i64 0, .int .i64 0] 32 (0, 0)) := (hb.block w.heap.size (by simp)).trans (heap_alloc_new w _); obtain ⟨hk2, hk3, hk4, hk5⟩ := two_cells hk1; have HK := Lib.hid hk1; clear hk1)
    all_goals
      have hblk := two_set1 (u := .int .i64 x.2) (two_set0 (u := .int .i64 x.1) HK.out)
      obtain ⟨q1, q2, _, _⟩ := two_cells hblk
      clear hblk
      go_wp2_with fail
      exact bodyPost_ret (v := .tuple #[.agg #[.int .i64 x.1, .int .i64 x.2], .slice A3 (n - 1) c3, .bool true]) (by simp [results, Try.results13, go_sem, q1, q2]) rfl ⟨A3, c3, by rw [HH.out, HD.out], ⟨ho.1, ((Ow.rebase ho.2 (base' := w.heap.size) (by simp)).set (fun g hg e => by have := (Ow.row ho.2 g hg).1; simp at this e; omega) _).set (fun g hg e => by have := (Ow.row ho.2 g hg).1; simp at this e; omega) _⟩, ((hbw0.trans (hb.mono (by simp))).setCell (p := ⟨w.heap.size, 0, none⟩) (Nat.le_refl _) _).setCell (p := ⟨w.heap.size, 1, none⟩) (Nat.le_refl _) _⟩

set_option maxHeartbeats 1000000 in
theorem grow_any (g base : Nat) (A : Option Addr) (n c : Nat) (l : List Re) (sock now most : Int) (t : TypeId) (w : World) (hg : w.heap[g]? = some (.cells #[.slice A n c, .int .i64 most] t (0, 0))) (ho : OwRe w base A n c l) (hne : some g ≠ rowOf A c) (hgb : base ≤ g) (hlt : g < w.heap.size) (hn : n ≤ 1000) :
    Calls Try.prog 44 #[.pointer (some ⟨g, 0, none⟩), .int .i64 sock, .int .i64 now] w fun e w' => ∃ A' c', e = .returned (.tuple #[]) ∧ w'.heap[g]? = some (.cells #[.slice A' (n + 1) c', .int .i64 most] t (0, 0)) ∧
      OwRe w' base A' (n + 1) c' (l ++ [(sock, clamp now)]) ∧ Hid (some g ≠ rowOf A' c') ∧ Below base w w' := by
  obtain ⟨k1, k2, k3, k4⟩ := two_cells hg
  have HG := Lib.hid hg
  have HNE := Lib.hid hne
  clear hg hne
  have hoA : OwRe (w.alloc (.cells #[.int .i64 sock, .int .i64 (clamp now)] 32)).drew base A n c l := (ho.alloc _).drew
  have hxA : Res (w.alloc (.cells #[.int .i64 sock, .int .i64 (clamp now)] 32)).drew (w.heap.size + 1) (some ⟨w.heap.size, 0, none⟩) 1 [(sock, clamp now)] := (Res.new1 w _ rfl (sock, clamp now) _).drew
  have hcA : (w.alloc (.cells #[.int .i64 sock, .int .i64 (clamp now)] 32)).drew.cell? ⟨g, 0, none⟩ = some (.slice A n c) := (World.cell?_alloc_lt w _ ⟨g, 0, none⟩ hlt).trans k1
  have hfA : (w.alloc (.cells #[.int .i64 sock, .int .i64 (clamp now)] 32)).drew.frozen? ⟨g, 0, none⟩ = false := by
    have h : (w.alloc (.cells #[.int .i64 sock, .int .i64 (clamp now)] 32)).heap[g]? = w.heap[g]? := Below.heap_alloc w _ g hlt
    have h2 := HG.out
    rw [← h] at h2
    exact (two_cells h2).2.2.1
  go_enter Try.func44, Try.ntmps44
  go_wp2_with fail
  go_region_law (first
    | (refine step_appRe (by rfl) (.tmp 10) (.tmp 15) (by rfl) base _ _ _ _ (by rfl) hoA (w.heap.size + 1) _ _ _ [(sock, clamp now)] (by rfl) hxA (by omega) (by simp; omega) ?_; intro A' c' w3 hown hgrow hrow; have hto3 : w3.cell? ⟨g, 0, none⟩ = some (.slice A n c) := (hgrow.cell_far _ (by simp; omega) HNE.out).trans hcA; have hfr3 : w3.frozen? ⟨g, 0, none⟩ = false := (hgrow.frozen_far _ (by simp; omega) HNE.out).trans hfA)
    | (go_simp; go_at_call 49; refine (Clamp_any _ _).mono ?_; rintro e w' ⟨rfl, rfl⟩))
  all_goals
    have hne3 : Hid (some g ≠ rowOf A' c') := by
      intro e
      rcases hrow with hrow | ⟨hrow, _⟩
      · exact HNE.out (by rw [← hrow]; exact e)
      · rw [hrow] at e
        injection e with e
        simp at e
        omega
    have hblk : (w3.setCell ⟨g, 0, none⟩ (.slice A' (n + 1) c')).heap[g]? = some (.cells #[.slice A' (n + 1) c', .int .i64 most] t (0, 0)) := two_set0 (a := .slice A n c) (by rw [hgrow.block g (by simp; omega) HNE.out]; exact (Below.heap_alloc w _ g hlt).trans HG.out)
    have hbl : Below base w (w3.setCell ⟨g, 0, none⟩ (.slice A' (n + 1) c')) := ((((Below.refl base w).alloc (by omega) _).drew).grown hgrow (by simp; omega) (fun q hq => (Ow.row hoA.2 q hq).1)).setCell (p := ⟨g, 0, none⟩) hgb _
    have hown3 : OwRe (w3.setCell ⟨g, 0, none⟩ (.slice A' (n + 1) c')) base A' (n + 1) c' (l ++ [(sock, clamp now)]) := ⟨hown.1, hown.2.set (fun q hq e => hne3.out (by rw [hq]; simp at e; rw [e])) _⟩
    clear hown hgrow hrow hto3 hfr3
    go_wp2_with fail
    go_end0
    exact ⟨A', c', rfl, hblk, hown3, hne3, hbl⟩

set_option maxHeartbeats 1000000 in
theorem puts_yes (g base : Nat) (A : Option Addr) (n c : Nat) (l : List Re) (sock now most : Int) (t : TypeId) (w : World) (hg : w.heap[g]? = some (.cells #[.slice A n c, .int .i64 most] t (0, 0))) (ho : OwRe w base A n c l) (hne : some g ≠ rowOf A c) (hgb : base ≤ g) (hlt : g < w.heap.size) (hn : n ≤ 1000) (hc : (n : Int) < most) :
    Calls Try.prog 30 #[.pointer (some ⟨g, 0, none⟩), .int .i64 sock, .int .i64 now] w fun e w' => ∃ A' c', e = .returned (.bool true) ∧ w'.heap[g]? = some (.cells #[.slice A' (n + 1) c', .int .i64 most] t (0, 0)) ∧
      OwRe w' base A' (n + 1) c' (l ++ [(sock, clamp now)]) ∧ Hid (some g ≠ rowOf A' c') ∧ Below base w w' := by
  obtain ⟨k1, k2, k3, k4⟩ := two_cells hg
  have HG := Lib.hid hg
  have HNE := Lib.hid hne
  clear hg hne
  have hd : decide (most ≤ (n : Int)) = false := by simpa using hc
  go_enter Try.func30, Try.ntmps30
  go_wp2_with fail
  go_quiet (fail)
  go_wp2_with fail
  refine (grow_any g base A n c l sock now most t _ (by exact HG.out) (by exact ho) HNE.out hgb (by exact hlt) hn).mono ?_
  rintro e w2 ⟨A', c', rfl, h1, h2, h3, h4⟩
  have hb : Below base w w2 := ⟨h4.os, h4.tape, h4.output, h4.size, h4.block⟩
  have H1 := Lib.hid h1
  clear h1 h4
  go_wp2_with fail
  go_ret
  exact ⟨A', c', rfl, H1.out, h2, h3, hb⟩
theorem puts_no (g : Nat) (A : Option Addr) (n c : Nat) (sock now most : Int) (t : TypeId) (w : World) (hg : w.heap[g]? = some (.cells #[.slice A n c, .int .i64 most] t (0, 0))) (hlt : g < w.heap.size) (hn : n ≤ 1000) (hc : most ≤ (n : Int)) :
    Calls Try.prog 30 #[.pointer (some ⟨g, 0, none⟩), .int .i64 sock, .int .i64 now] w fun e w' => e = .returned (.bool false) ∧ ∃ m, w' = w.drewN m := by
  obtain ⟨k1, k2, k3, k4⟩ := two_cells hg
  clear hg
  have hd : decide (most ≤ (n : Int)) = true := by simpa using hc
  go_enter Try.func30, Try.ntmps30
  go_wp2_with fail
  go_quiet (fail)
  go_wp2_with fail
  go_ret
  exact ⟨rfl, _, rfl⟩

theorem below_drewN {B : Nat} {w w' : World} (h : Below B w w') (m : Nat) : Below B w (w'.drewN m) := ⟨h.os, h.tape, h.output, h.size, h.block⟩
def putM (nl : Nat) (most : Int) (n : Nat) : Nat := min n (most - nl).toNat
def putE (nl : Nat) (most : Int) (n : Nat) : Int := if putM nl most n = n then 0 else 230
def putRow (ls : List Int) (now : Int) : List Re := ls.map fun s => (s, clamp now)
def PutInv (w : World) (l : List Re) (ls : List Int) (most now : Int) (n : Nat) (s21 : Value) (g : Nat) (wr : World) : Prop :=
  ∃ (k : Nat) (A' : Option Addr) (c' : Nat), k ≤ n ∧ s21 = .int .i64 k ∧ (k = 0 ∨ (l.length : Int) + k ≤ most) ∧ g < wr.heap.size ∧ Hid (wr.heap[g]? = some (.cells #[.slice A' (l.length + k) c', .int .i64 most] 54 (0, 0))) ∧
    Hid (some g ≠ rowOf A' c') ∧ OwRe wr w.heap.size A' (l.length + k) c' (l ++ putRow (ls.take k) now) ∧ Below w.heap.size w wr
set_option maxHeartbeats 2000000 in
theorem Put_any (A : Option Addr) (n c : Nat) (l : List Re) (most now : Int) (As : Option Addr) (ns cs : Nat) (ls : List Int) (w : World) (hl : Res w w.heap.size A n l) (hn : n ≤ 500) (hs : Ints w w.heap.size As ns ls) (hns : ns ≤ 500) :
    Calls Try.prog 9 #[.slice A n c, .int .i64 most, .int .i64 now, .slice As ns cs] w fun e w' => ∃ A' c', e = .returned (.tuple #[.slice A' (n + putM n most ns) c', .int .i64 (putE n most ns)]) ∧
      OwRe w' w.heap.size A' (n + putM n most ns) c' (l ++ putRow (ls.take (putM n most ns)) now) ∧ Below w.heap.size w w' := by
  have HL := Lib.hid hl.1
  have HS := Lib.hid hs.len
  go_enter Try.func9, Try.ntmps9
  go_wp2_with fail
  refine (CloneRe_any _ _ _ _ l _ hl (by omega)).mono ?_
  rintro e w1 ⟨A3, c3, rfl, ho, hb⟩
  have hb1 := hb.alloc hb.size (.cells #[.slice A3 n c3, .int .i64 most] 54)
  have hblk : Hid ((w1.alloc (.cells #[.slice A3 n c3, .int .i64 most] 54)).heap[w1.heap.size]? = some (.cells #[.slice A3 n c3, .int .i64 most] 54 (0, 0))) := heap_alloc_new w1 _
  have hne : Hid (some w1.heap.size ≠ rowOf A3 c3) := fun e => by have := (Ow.row ho.2 _ e.symm).2; omega
  have ho1 := ho.alloc (.cells #[.slice A3 n c3, .int .i64 most] 54)
  have hgl := hb.size
  clear hb ho
  go_wp2_with fail
  go_loopw [21] (fun s21 wr => PutInv w l ls most now ns s21 w1.heap.size wr) (fun s21 _ => ns - (intOf s21).toNat)
  case atStart => exact ⟨0, A3, c3, Nat.zero_le _, rfl, .inl rfl, by simp, by rw [HL.out]; exact hblk, hne, by rw [HL.out]; simpa [putRow] using ho1, hb1⟩
  case round =>
    clear hb1 hblk hne ho1
    obtain ⟨k, A4, c4, hk, rfl, hroom, hgs, hblk, hne, ho, hb⟩ := hrel
    rw [HL.out] at hroom hblk ho
    by_cases hlt : k < ns
    · obtain ⟨b, off, x, rfl, hbb, hx, hcx⟩ := (hs.below hb).at_ hlt
      by_cases hm : most ≤ ((n + k : Nat) : Int)
      · have hfin : putM n most ns = k := by unfold putM; omega
        have hlne : ¬ (k = ns) := by omega
        have HF := Lib.hid hfin
        have he : putE n most ns = 230 := by unfold putE; rw [hfin, if_neg hlne]
        have HE := Lib.hid he
        clear hfin hlne he
        go_wp2_with fail
        refine (puts_no w1.heap.size A4 (n + k) c4 x now most _ _ hblk.out hgs (by omega) hm).mono ?_
        rintro e w2 ⟨rfl, nq, rfl⟩
        obtain ⟨k1, k2, k3, k4⟩ := two_cells hblk.out
        go_wp2_with fail
        go_ret2
        exact ⟨A4, c4, by rw [HE.out, HF.out]; rfl, by rw [HF.out]; exact ho, below_drewN hb nq⟩
      · go_wp2_with fail
        refine (puts_yes w1.heap.size w.heap.size A4 (n + k) c4 _ x now most _ _ hblk.out ho hne.out hgl hgs (by omega) (by omega)).mono ?_
        rintro e w2 ⟨A5, c5, rfl, hblk2, ho2, hne2, hb2⟩
        have hbw := hb.trans hb2
        have hpr : l ++ putRow (ls.take k) now ++ [(x, clamp now)] = l ++ putRow (ls.take (k + 1)) now := by rw [take_succ_of hx.out]; simp [putRow]
        rw [hpr, Nat.add_assoc] at ho2
        rw [Nat.add_assoc] at hblk2
        have hblk3 : Hid (w2.heap[w1.heap.size]? = some (.cells #[.slice A5 (n + (k + 1)) c5, .int .i64 most] 54 (0, 0))) := hblk2
        have hsz2 := hb2.size
        clear hblk2 hb2 hpr hblk hne ho
        go_wp2_with fail
        go_roundw
        case rel => exact ⟨k + 1, A5, c5, by omega, by go_num, by rw [HL.out]; omega, by omega, by rw [HL.out]; exact hblk3, hne2, by rw [HL.out]; exact ho2, hbw⟩
        case measure => simp [intOf]; omega
    · obtain rfl : k = ns := by omega
      have hfin : putM n most k = k := by unfold putM; omega
      have he : putE n most k = 0 := by unfold putE; rw [hfin, if_pos rfl]
      have HF := Lib.hid hfin
      have HE := Lib.hid he
      clear hfin he
      obtain ⟨k1, k2, k3, k4⟩ := two_cells hblk.out
      go_wp2_with fail
      go_ret2
      exact ⟨A4, c4, by rw [HE.out, HF.out]; rfl, by rw [HF.out]; exact ho, hb⟩
end Go.Proofs.Ytepofpbpolenlaa
