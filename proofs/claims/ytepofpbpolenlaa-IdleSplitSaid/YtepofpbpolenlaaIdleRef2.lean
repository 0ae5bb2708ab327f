/-
  What the document's answer of chapter 21 computes: Put, Last, When. Conditions: a slice argument reads as a list of at most 1000 pairs or numbers.
-/
import Derived.Test.YtepofpbpolenlaaIdleRef
namespace Go.Proofs.Ytepofpbpolenlaa
open Go.RowKit Go.Shelf

set_option maxHeartbeats 2000000 in
theorem rLast21_any (A : Option Addr) (n c : Nat) (l : List Re) (w : World) (hl : Res w w.heap.size A n l) (hn : n ≤ 1000) (hnc : n ≤ c) :
    Calls Try.prog 22 #[.slice A n c] w fun e w' => ∃ A' c', e = .returned (.tuple #[.agg #[.int .i64 (lastRe l).1, .int .i64 (lastRe l).2], .slice A' (n - 1) c', .bool (decide (0 < n))]) ∧ OwRe w' w.heap.size A' (n - 1) c' (l.take (n - 1)) ∧ Below w.heap.size w w' := by
  have HLN := Lib.hid hl.1
  rcases Nat.eq_zero_or_pos n with h0 | h0
  · have hb0 : ((n : Int) == 0) = true := by simp; omega
    have hl0 : l = [] := List.eq_nil_of_length_eq_zero (by rw [hl.1]; exact h0)
    subst hl0 h0
    go_enter Try.func22, Try.ntmps22
    go_wp2
    exact bodyPost_ret (v := .tuple #[.agg #[.int .i64 0, .int .i64 0], .slice none 0 0, .bool false]) (by simp [results, Try.results22, go_sem]) rfl ⟨none, 0, rfl, OwR.nil_ _ _ _ _, Below.new_ _ _⟩
  · have hr := Recs.take1 encRe_len hl (Nat.sub_le n 1)
    obtain ⟨b, off, x, rfl, hbb, hx, hc1, hc2⟩ := Res.cells hl (show n - 1 < n by omega)
    have hb0 : ((n : Int) == 0) = false := by simp; omega
    have hh : lastRe l = x := by unfold lastRe; rw [HLN.out, List.getD_eq_getElem?_getD, hx.out]; rfl
    have hd : decide (0 < n) = true := by simpa using h0
    have HH := Lib.hid hh
    have HD := Lib.hid hd
    clear hh hd
    have i1 : (1 : Int) ≤ (n : Int) := by omega
    have i2 : (0 : Int) ≤ (n : Int) - 1 := by omega
    have i3 : (n : Int) - 1 < (n : Int) := by omega
    have i4 : (n : Int) - 1 ≤ (c : Int) := by omega
    have i5 : ((n : Int) - 1).toNat = n - 1 := by omega
    have i6 : IntKind.i64.wrap ((n : Int) - 1) = (n : Int) - 1 := IntWalk.i64_in _ (by omega)
    have hrA := ((hr.alloc (Nat.le_refl _) (.cells #[.int .i64 0, .int .i64 0] 32)).alloc (by first | omega | (simp; done) | (simp; omega)) (.cells #[] 32)).drew
    have hnil : OwRe ((w.alloc (.cells #[.int .i64 0, .int .i64 0] 32)).alloc (.cells #[] 32)).drew w.heap.size (some ⟨w.heap.size + 1, 0, none⟩) 0 0 [] := OwR.nil_ _ _ _ _
    have hn1 : Hid (0 + (n - 1) ≤ 1000000) := by show _ ≤ _; omega
    have hz : Hid (0 + (n - 1) = n - 1) := Nat.zero_add _
    go_enter Try.func22, Try.ntmps22
    go_wp2_with fail
    go_region_law ((refine step_appRe (by rfl) (.tmp 15) (.tmp 20) (by rfl) w.heap.size _ _ _ _ (by rfl) hnil w.heap.size _ _ _ _ (by rfl) hrA hn1.out (by first | omega | (simp; done) | (simp; omega)) ?_; rw [hz.out]; intro A3 c3 w3 ho hgr hro; have hk1 : w3.heap[w.heap.size]? = some (.cells #[.int .i64 0, .int .i64 0] 32 (0, 0)) := (hgr.block w.heap.size (by first | omega | (simp; done) | (simp; omega)) (by simp [rowOf])).trans ((Below.heap_alloc _ _ _ (by simp)).trans (heap_alloc_new w _)); obtain ⟨hk2, hk3, hk4, hk5⟩ := two_cells hk1; have hc1' : w3.cell? ⟨b, off + (n - 1) * 2, none⟩ = some (.int .i64 x.1) := ((((Below.new_ w _).alloc (by simp) _).drew.grown hgr (by first | omega | (simp; done) | (simp; omega)) (by simp [rowOf])).cell (p := ⟨b, off + (n - 1) * 2, none⟩) hbb).trans hc1; have hc2' : w3.cell? ⟨b, off + (n - 1) * 2 + 1, none⟩ = some (.int .i64 x.2) := ((((Below.new_ w _).alloc (by simp) _).drew.grown hgr (by first | omega | (simp; done) | (simp; omega)) (by simp [rowOf])).cell (p := ⟨b, off + (n - 1) * 2 + 1, none⟩) hbb).trans hc2; have HK := Lib.hid hk1; clear hk1))
    all_goals
      have hb3 : Below w.heap.size w w3 := (((Below.new_ w _).alloc (by simp) _).drew.grown hgr (by first | omega | (simp; done) | (simp; omega)) (by simp [rowOf]))
      have hblk := two_set1 (u := .int .i64 x.2) (two_set0 (u := .int .i64 x.1) HK.out)
      obtain ⟨q1, q2, _, _⟩ := two_cells hblk
      rw [List.nil_append] at ho
      have hne : ∀ g, rowOf A3 c3 = some g → g ≠ w.heap.size := by
        intro g hg
        rcases hro with hro | ⟨hro, _⟩
        · rw [hro] at hg; simp [rowOf] at hg
        · rw [hro] at hg; injection hg with hg; simp at hg; omega
      have HNE := Lib.hid hne
      clear hblk hgr hro hne
      go_wp2_with fail
      exact bodyPost_ret (v := .tuple #[.agg #[.int .i64 x.1, .int .i64 x.2], .slice A3 (n - 1) c3, .bool true]) (by simp [results, Try.results22, go_sem, q1, q2]) rfl ⟨A3, c3, by rw [HH.out, HD.out], ⟨ho.1, (ho.2.set (fun g hg => HNE.out g hg) _).set (fun g hg => HNE.out g hg) _⟩, (hb3.setCell (p := ⟨w.heap.size, 0, none⟩) (Nat.le_refl _) _).setCell (p := ⟨w.heap.size, 1, none⟩) (Nat.le_refl _) _⟩

def rPutInv (w : World) (l : List Re) (ls : List Int) (most now : Int) (n : Nat) (s10 s11 : Value) (wr : World) : Prop :=
  ∃ (k : Nat) (A' : Option Addr) (c' : Nat), k ≤ n ∧ s11 = .int .i64 k ∧ s10 = .slice A' (l.length + k) c' ∧ (k = 0 ∨ (l.length : Int) + k ≤ most) ∧
    OwRe wr w.heap.size A' (l.length + k) c' (l ++ putRow (ls.take k) now) ∧ Below w.heap.size w wr
set_option maxHeartbeats 2000000 in
theorem rPut21_any (A : Option Addr) (n c : Nat) (l : List Re) (most now : Int) (As : Option Addr) (ns cs : Nat) (ls : List Int) (w : World) (hl : Res w w.heap.size A n l) (hn : n ≤ 500) (hs : Ints w w.heap.size As ns ls) (hns : ns ≤ 500) :
    Calls Try.prog 21 #[.slice A n c, .int .i64 most, .int .i64 now, .slice As ns cs] w fun e w' => ∃ A' c', e = .returned (.tuple #[.slice A' (n + putM n most ns) c', .int .i64 (putE n most ns)]) ∧
      OwRe w' w.heap.size A' (n + putM n most ns) c' (l ++ putRow (ls.take (putM n most ns)) now) ∧ Below w.heap.size w w' := by
  have HL := Lib.hid hl.1
  have HS := Lib.hid hs.len
  have hz : 0 + n = n := Nat.zero_add n
  have HZ := Lib.hid hz
  clear hz
  go_enter Try.func21, Try.ntmps21
  go_wp2_with (at_builtin; refine wpList_appRe _ rfl (.tmp 12) (.tmp 13) rfl w.heap.size _ _ _ [] rfl (OwR.nil_ _ _ _ _) w.heap.size _ _ _ l rfl (hl.alloc (Nat.le_refl _) _) (by omega) (by simp) ?_; intro A1 c1 w1 ho1 hg1 hr1; rw [HZ.out, List.nil_append] at ho1; rw [HZ.out]; have hb1 : Below w.heap.size w w1 := (Below.new_ w _).grown hg1 (by simp) (by simp [rowOf]))
  clear hg1 hr1
  go_loopw [10, 11] (fun s10 s11 wr => rPutInv w l ls most now ns s10 s11 wr) (fun _ s11 _ => ns - (intOf s11).toNat)
  case atStart => exact ⟨0, A1, c1, Nat.zero_le _, rfl, by rw [HL.out]; rfl, .inl rfl, by rw [HL.out]; simpa [putRow] using ho1, hb1⟩
  case round =>
    clear hb1 ho1
    obtain ⟨k, A4, c4, hk, rfl, rfl, hroom, ho, hb⟩ := hrel
    rw [HL.out] at hroom ho ⊢
    by_cases hlt : k < ns
    · obtain ⟨b, off, x, rfl, hbb, hx, hcx⟩ := (hs.below hb).at_ hlt
      by_cases hm : most ≤ ((n + k : Nat) : Int)
      · have hfin : putM n most ns = k := by unfold putM; omega
        have hlne : ¬ (k = ns) := by omega
        have he : putE n most ns = 230 := by unfold putE; rw [hfin, if_neg hlne]
        have HF := Lib.hid hfin
        have HE := Lib.hid he
        clear hfin hlne he
        go_wp2_with fail
        go_ret2
        exact ⟨A4, c4, by rw [HE.out, HF.out]; rfl, by rw [HF.out]; exact ho, hb⟩
      · have hoA : OwRe (wr.alloc (.cells #[.int .i64 x, .int .i64 (clamp now)] 32)).drew w.heap.size A4 (n + k) c4 (l ++ putRow (ls.take k) now) := (ho.alloc _).drew
        have hxA : Res (wr.alloc (.cells #[.int .i64 x, .int .i64 (clamp now)] 32)).drew (wr.heap.size + 1) (some ⟨wr.heap.size, 0, none⟩) 1 [(x, clamp now)] := (Res.new1 wr _ rfl (x, clamp now) _).drew
        have hpr : l ++ putRow (ls.take k) now ++ [(x, clamp now)] = l ++ putRow (ls.take (k + 1)) now := by rw [take_succ_of hx.out]; simp [putRow]
        have HPR := Lib.hid hpr
        have hsz := hb.size
        clear hpr
        go_wp2_with fail
        go_region_law (first
          | (refine step_appRe (by rfl) (.tmp 26) (.tmp 34) (by rfl) w.heap.size _ _ _ _ (by rfl) hoA (wr.heap.size + 1) _ _ _ [(x, clamp now)] (by rfl) hxA (by omega) (by first | omega | (simp; done) | (simp; omega)) ?_; intro A5 c5 w5 ho5 hg5 hr5)
          | (go_simp; go_at_call 17; refine (rClamp_any _ _).mono ?_; rintro e w' ⟨rfl, rfl⟩))
        all_goals
          have hbw : Below w.heap.size w w5 := ((hb.alloc hb.size _).drew).grown hg5 (by first | omega | (simp; done) | (simp; omega)) (fun q hq => (Ow.row hoA.2 q hq).1)
          rw [HPR.out, Nat.add_assoc] at ho5
          clear hg5 hr5
          go_wp2_with fail
          go_roundw
          case rel => exact ⟨k + 1, A5, c5, by omega, by go_num, by rw [HL.out, Nat.add_assoc], by rw [HL.out]; omega, by rw [HL.out]; exact ho5, hbw⟩
          case measure => simp [intOf]; omega
    · obtain rfl : k = ns := by omega
      have hfin : putM n most k = k := by unfold putM; omega
      have he : putE n most k = 0 := by unfold putE; rw [hfin, if_pos rfl]
      have HF := Lib.hid hfin
      have HE := Lib.hid he
      clear hfin he
      go_wp2_with fail
      go_ret2
      exact ⟨A4, c4, by rw [HE.out, HF.out]; rfl, by rw [HF.out]; exact ho, hb⟩

theorem firstOf_neg (l : List Int) (k : Nat) (hk : k ≤ l.length) : (firstOf (l.take k)).1 < 0 ↔ k = 0 := by
  induction k with
  | zero => simp [firstOf, firstRun]
  | succ k ih =>
    have hx : l[k]? = some l[k] := List.getElem?_eq_getElem (by omega)
    rw [firstOf_take (by omega) hx]
    have ih := ih (by omega)
    unfold firstStep
    split
    · constructor
      · intro h; simp only at h; omega
      · intro h; omega
    · rename_i h
      constructor
      · intro h2; exact absurd (.inl h2) h
      · intro h2; omega
theorem clamp_later (t : Int) (l : List Int) : clamp (later t l) = later t l := by
  have := later_bd t l
  exact clamp_of this.1 this.2
set_option maxHeartbeats 1600000 in
theorem rWhen21_any (A : Option Addr) (n c : Nat) (l : List Re) (long : Int) (w : World) (hl : Res w w.heap.size A n l) (hn : n ≤ 1000) :
    Calls Try.prog 24 #[.slice A n c, .int .i64 long] w fun e w' => e = .returned (.tuple #[.int .i64 (firstOf (endsOf l long)).2, .bool (decide (0 < n))]) ∧ Below w.heap.size w w' := by
  have HL := Lib.hid hl.1
  go_enter Try.func24, Try.ntmps24
  go_wp2_with fail
  go_loopw [6, 7] (fun s6 s7 wr => ∃ k : Nat, k ≤ n ∧ s7 = .int .i64 k ∧ s6 = .int .i64 (firstOf ((endsOf l long).take k)).2 ∧ Below w.heap.size w wr) (fun _ s7 _ => n - (intOf s7).toNat)
  case atStart => exact ⟨0, Nat.zero_le _, rfl, rfl, Below.refl _ _⟩
  case round =>
    obtain ⟨k, hk, rfl, rfl, hb⟩ := hrel
    by_cases hlt : k < n
    · obtain ⟨b, off, x, rfl, hbb, hx, hc1, hc2⟩ := Res.cells (hl.below hb) hlt
      have hex : (endsOf l long)[k]? = some (later x.2 [long]) := by unfold endsOf; rw [List.getElem?_map, hx.out]; rfl
      have hst := firstOf_take (l := endsOf l long) (by simp [endsOf, HL.out]; exact hlt) hex
      rw [show firstStep (firstOf ((endsOf l long).take k)) k (later x.2 [long]) = if (firstOf ((endsOf l long).take k)).1 < 0 ∨ later x.2 [long] < (firstOf ((endsOf l long).take k)).2 then ((k : Int), later x.2 [long]) else firstOf ((endsOf l long).take k) by unfold firstStep; rw [clamp_later]] at hst
      have hneg : (firstOf ((endsOf l long).take k)).1 < 0 ↔ k = 0 := firstOf_neg _ _ (by simp [endsOf, HL.out]; omega)
      obtain ⟨q, hq⟩ : ∃ q, q = (firstOf ((endsOf l long).take k)).2 := ⟨_, rfl⟩
      rw [← hq] at hst ⊢
      obtain ⟨y, hy⟩ : ∃ y, y = later x.2 [long] := ⟨_, rfl⟩
      by_cases h0 : k = 0
      · subst h0
        have hfin : (firstOf ((endsOf l long).take (0 + 1))).2 = later x.2 [long] := by rw [hst, if_pos (.inl (hneg.2 rfl))]
        have HF := Lib.hid hfin
        clear hfin hst hneg hex hy hq
        go_wp2_with (go_at_call 41; refine (rLater_any _ _ _ _ _ [long] _ (Ints.at1_ _ _ long _ (by simp)) (by omega)).mono ?_; rintro e w' ⟨rfl, rfl⟩)
        go_roundw
        case rel => exact ⟨1, by omega, rfl, by rw [HF.out], hb.alloc hb.size _⟩
        case measure => simp [intOf]; omega
      · have hk0 : ((k : Int) == 0) = false := by simp; omega
        by_cases hlq : later x.2 [long] < q
        · have hd : decide (later x.2 [long] < q) = true := by simpa using hlq
          have hfin : (firstOf ((endsOf l long).take (k + 1))).2 = later x.2 [long] := by rw [hst, if_pos (.inr hlq)]
          have HF := Lib.hid hfin
          clear hfin hst hneg hex hy hq h0
          go_wp2_with (go_at_call 41; refine (rLater_any _ _ _ _ _ [long] _ (Ints.at1_ _ _ long _ (by simp)) (by omega)).mono ?_; rintro e w' ⟨rfl, rfl⟩)
          go_roundw
          case rel => exact ⟨k + 1, by omega, by go_num, by rw [HF.out], hb.alloc hb.size _⟩
          case measure => simp [intOf]; omega
        · have hd : decide (later x.2 [long] < q) = false := by simpa using hlq
          have hfin : (firstOf ((endsOf l long).take (k + 1))).2 = q := by rw [hst, if_neg (by rw [hneg]; omega)]; exact hq.symm
          have HF := Lib.hid hfin
          clear hfin hst hneg hex hy hq h0
          go_wp2_with (go_at_call 41; refine (rLater_any _ _ _ _ _ [long] _ (Ints.at1_ _ _ long _ (by simp)) (by omega)).mono ?_; rintro e w' ⟨rfl, rfl⟩)
          go_roundw
          case rel => exact ⟨k + 1, by omega, by go_num, by rw [HF.out], hb.alloc hb.size _⟩
          case measure => simp [intOf]; omega
    · obtain rfl : k = n := by omega
      have ht : (endsOf l long).take k = endsOf l long := List.take_of_length_le (by simp [endsOf, HL.out])
      rw [ht]
      clear ht
      go_wp2_with fail
      go_ret2
      exact ⟨by simp, hb⟩
end Go.Proofs.Ytepofpbpolenlaa
