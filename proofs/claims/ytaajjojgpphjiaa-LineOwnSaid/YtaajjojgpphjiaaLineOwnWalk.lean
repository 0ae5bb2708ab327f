/-
  The walk of the statement LineOwn. Conditions: none.
-/
import Derived.Test.YtaajjojgpphjiaaLineOwnPlain
namespace Go.Proofs.Ytaajjojgpphjiaa
open Go.RowKit

def LOi (w1 : World) (lo hi m : Nat) (rows : List Row) (s65 : Value) (wr : World) : Prop := ∃ j : Nat, j ≤ m ∧ s65 = .int .i64 j ∧ Spoil w1 lo hi rows wr
def LOo (w1 : World) (lo hi : Nat) (rows : List Row) (s59 : Value) (wr : World) : Prop := ∃ k : Nat, k ≤ 5 ∧ s59 = .int .i64 k ∧ Spoil w1 lo hi rows wr

set_option maxRecDepth 100000 in
set_option maxHeartbeats 4000000 in
theorem LineOwn_in (A : Option Addr) (n c : Nat) (l : List Int) (x : Int) (w : World) (hl : Ints w w.heap.size A n l) (hnc : n ≤ c) (hn : n ≤ 200) :
    Calls Try.prog 6 #[.slice A n c, .int .i64 x] w fun e w' => e = .returned (.bool true) ∧ Below w.heap.size w w' := by
  have hrow : tooGreat [(A, n, c)] = false := by simp [tooGreat]; omega
  have HRW := Lib.hid hrow
  clear hrow
  have HL := Lib.hid hl.len
  go_enter Try.func6, Try.ntmps6
  go_wp2_with fail
  refine (Great_any _ _ _ _ [(_, n, c)] _ (rows_new1 w _ (_, n, c) _ rfl) (by omega) (by simp; omega)).mono ?_
  rw [HRW.out]
  rintro e w' ⟨rfl, rfl⟩
  have hz : 0 + n = n := Nat.zero_add n
  go_wp2_with (at_builtin; refine wpList_appI _ rfl (.tmp 24) (.tmp 25) rfl w.heap.size _ _ _ [] rfl (OwI.nil_ _ _ _ _) w.heap.size _ _ _ l rfl ((hl.alloc (Nat.le_refl _) _).alloc (by simp) _) (by omega) (by simp; omega) ?_; intro A1 c1 w1 ho1 hg1 hr1; rw [hz, List.nil_append] at ho1; rw [hz]; have hb1 : Below w.heap.size w w1 := ((Below.new_ w _).alloc (by simp) _).grown hg1 (by simp; omega) (by simp [rowOf]))
  have hi1 := ho1.ints
  clear ho1 hg1 hr1 hz
  have hl1 := (hl.below hb1).more hb1.size
  go_wp2_with fail
  refine (Front_any _ _ _ l _ hl1 (by omega) hnc).mono ?_
  rintro e w2 ⟨A2, c2, rfl, ho2, hb2⟩
  have hr2 := RowOK.of_own ho2 (Nat.le_refl _) (Nat.le_refl _)
  clear ho2
  have hl2 := (hl1.below hb2).more hb2.size
  go_wp2_with fail
  refine (Back_any _ _ _ l _ hl2 (by omega) hnc).mono ?_
  rintro e w3 ⟨A3, c3, rfl, ho3, hb3⟩
  have hr3 := RowOK.of_own ho3 hb2.size (Nat.le_refl _)
  replace hr2 := (hr2.below hb3 (Nat.le_refl _)).more hb3.size
  have hb13 := hb2.trans (hb3.mono hb2.size)
  clear ho3 hb2 hb3 hl2
  have hl3 := (hl1.below hb13).more hb13.size
  go_wp2_with fail
  refine (Drop_any _ _ _ _ _ _ l [x] _ ((hl3.alloc (Nat.le_refl _) _).more (by simp <;> omega)) (Ints.at1_ _ _ x _ rfl|>.more (by simp)) (by omega) (by omega)).mono ?_
  rintro e w4 ⟨A4, c4, rfl, ho4, hb4⟩
  obtain ⟨m4, hm4⟩ : ∃ m, m = (dropRun l [x]).1.length := ⟨_, rfl⟩
  have h4n : m4 ≤ 200 := by
    have h := HL.out
    by_cases hmem : x ∈ l
    · rw [hm4, dropRun_hit hmem]; simp only []; rw [List.length_erase_of_mem hmem]; omega
    · rw [hm4, dropRun_miss hmem]; simp only []; omega
  rw [← hm4] at ho4
  rw [← hm4]
  have HM4 := Lib.hid hm4
  clear hm4
  have hb34 : Below w3.heap.size w3 w4 := (Below.new_ _ _).trans (hb4.mono (by simp))
  have hr4 := RowOK.of_own ho4 (lo := w1.heap.size) (by have := hb13.size; simp; omega) (Nat.le_refl _)
  replace hr2 := (hr2.below hb34 (Nat.le_refl _)).more hb34.size
  replace hr3 := (hr3.below hb34 (Nat.le_refl _)).more hb34.size
  have hb14 := hb13.trans (hb34.mono hb13.size)
  clear ho4 hb34 hb4 hl3 hb13
  have hl4 := (hl1.below hb14).more hb14.size
  go_wp2_with fail
  refine (Push_any _ _ n 1 _ _ l [x] _ ((hl4.alloc (Nat.le_refl _) _).more (by simp)) (Ints.at1_ _ _ x _ rfl|>.more (by simp)) (by omega) (by omega) hnc).mono ?_
  rintro e w5 ⟨A5, c5, rfl, ho5, hb5⟩
  have hb45 : Below w4.heap.size w4 w5 := (Below.new_ _ _).trans (hb5.mono (by simp))
  have hr5 := RowOK.of_own ho5 (lo := w1.heap.size) (by have := hb14.size; simp; omega) (Nat.le_refl _)
  replace hr2 := (hr2.below hb45 (Nat.le_refl _)).more hb45.size
  replace hr3 := (hr3.below hb45 (Nat.le_refl _)).more hb45.size
  replace hr4 := (hr4.below hb45 (Nat.le_refl _)).more hb45.size
  have hb15 := hb14.trans (hb45.mono hb14.size)
  clear ho5 hb45 hb5 hl4 hb14
  have hl5 := (hl1.below hb15).more hb15.size
  go_wp2_with fail
  refine (Turned_any _ _ _ l _ hl5 (by omega)).mono ?_
  rintro e w6 ⟨A6, c6, rfl, ho6, hb6⟩
  have hr6 := RowOK.of_own ho6 (lo := w1.heap.size) hb15.size (Nat.le_refl _)
  replace hr2 := (hr2.below hb6 (Nat.le_refl _)).more hb6.size
  replace hr3 := (hr3.below hb6 (Nat.le_refl _)).more hb6.size
  replace hr4 := (hr4.below hb6 (Nat.le_refl _)).more hb6.size
  replace hr5 := (hr5.below hb6 (Nat.le_refl _)).more hb6.size
  have hb16 := hb15.trans (hb6.mono hb15.size)
  clear ho6 hb6 hl5 hb15
  obtain ⟨rows, hrows⟩ : ∃ rows : List Row, rows = [(A2, n - 1, c2), (A3, n - 1, c3), (A4, m4, c4), (A5, n + 1, c5), (A6, n, c6)] := ⟨_, rfl⟩
  have hsp : Spoil w1 w1.heap.size w6.heap.size rows (w6.alloc (.cells #[.slice A2 (n - 1) c2, .slice A3 (n - 1) c3, .slice A4 m4 c4, .slice A5 (n + 1) c5, .slice A6 n c6] 22)) := by
    subst hrows
    refine ⟨?_, hb16.alloc hb16.size _, heap_alloc_new w6 _⟩
    have h := fun (A : Option Addr) (q : Nat) (hr : RowOK w6 w1.heap.size w6.heap.size A q) => hr.below (Below.new_ w6 (.cells #[.slice A2 (n - 1) c2, .slice A3 (n - 1) c3, .slice A4 m4 c4, .slice A5 (n + 1) c5, .slice A6 n c6] 22)) (Nat.le_refl _)
    simp only [List.forall_mem_cons, List.not_mem_nil, false_implies, implies_true, and_true]
    exact ⟨h _ _ hr2, h _ _ hr3, h _ _ hr4, h _ _ hr5, h _ _ hr6⟩
  have hbd : ∀ r ∈ rows, r.2.1 ≤ 100000 := by
    subst hrows
    simp only [List.forall_mem_cons, List.not_mem_nil, false_implies, implies_true, and_true]
    omega
  have hlen : rows.length = 5 := by subst hrows; rfl
  have HS := Lib.hid hsp
  have HBD := Lib.hid hbd
  have HLN := Lib.hid hlen
  have hz16 := hb16.size
  clear hsp hbd hlen hr2 hr3 hr4 hr5 hr6 hrows hb16
  go_wp2_with fail
  go_loopw [59] (fun s59 wr => LOo w1 w1.heap.size w6.heap.size rows s59 wr) (fun s59 _ => 5 - (intOf s59).toNat)
  case atStart => exact ⟨0, by omega, rfl, HS.out⟩
  case round =>
    clear HS
    obtain ⟨k, hk, rfl, hsp⟩ := hrel
    by_cases hlt : k < 5
    · obtain ⟨r, hr⟩ : ∃ r, rows[k]? = some r := ⟨_, List.getElem?_eq_getElem (by rw [HLN.out]; exact hlt)⟩
      have hcell := hsp.cell hr
      have hmem := List.mem_of_getElem? hr
      obtain ⟨Ar, nr, cr⟩ := r
      have hnr : nr ≤ 100000 := HBD.out _ hmem
      replace hcell : wr.cell? ⟨w6.heap.size, k, none⟩ = some (.slice Ar nr cr) := hcell
      have HMEM := Lib.hid hmem
      clear hmem hr
      go_wp2_with fail
      go_loopw [65] (fun s65 wx => LOi w1 w1.heap.size w6.heap.size nr rows s65 wx) (fun s65 _ => nr - (intOf s65).toNat)
      case atStart => exact ⟨0, Nat.zero_le _, rfl, hsp⟩
      case round =>
        clear hsp hcell
        obtain ⟨j, hj, rfl, hsp⟩ := hrel
        by_cases hlj : j < nr
        · obtain ⟨b, z, rfl, hlo, hhi, hcz, hfz⟩ := (hsp.all _ HMEM.out).cell hlj
          go_wp2_with fail
          go_roundw
          case rel => exact ⟨j + 1, by omega, by go_num, hsp.set _ hlo hhi⟩
          case measure => simp [intOf]; omega
        · go_wp2_with fail
          go_roundw
          case rel => exact ⟨k + 1, by omega, by go_num, hsp⟩
          case measure => simp [intOf]; omega
    · have hbw : Below w.heap.size w wr := hb1.trans (hsp.old.mono hb1.size)
      have hlr := (hl.below hbw).more hbw.size
      have hir := (hi1.below hsp.old).more hsp.old.size
      clear hsp
      rcases A with _ | a
      all_goals
        go_wp2_with fail
        refine (Push_any _ _ 0 1 _ _ [] [5] _ (Ints.nil_ _ _ _) (Ints.at1_ _ _ 5 _ rfl|>.more (by simp)) (by omega) (by omega) (by omega)).mono ?_
        rw [show 0 + 1 = 1 from rfl]
        rintro e w7 ⟨A7, c7, rfl, ho7, hb7⟩
        have hb7w : Below wr.heap.size wr w7 := (Below.new_ _ _).trans (hb7.mono (by simp))
        have hbw7 := hbw.trans (hb7w.mono hbw.size)
        have hl7 := (hlr.below hb7w).more hb7w.size
        have hi7 := (hir.below hb7w).more hb7w.size
        obtain ⟨b, off, y, rfl, hbb, hy, hcy⟩ := ho7.ints.at_ (show 0 < 1 by omega)
        obtain rfl : y = 5 := by have := hy.out; simp at this; exact this.symm
        clear ho7 hb7 hb7w hlr hir
        go_wp2_with fail
        refine (Same_any _ _ _ _ _ _ l l _ hl7 hi7 (by omega) (by omega)).mono ?_
        have hd : sameL l l = true := by simp [sameL]
        rw [hd]
        clear hd
        rintro e w8 ⟨rfl, hb8⟩
        have hc8 : w8.cell? ⟨b, off, none⟩ = some (.int .i64 5) := (hb8.cell (p := ⟨b, off, none⟩) hbb).trans hcy
        have hbw8 := hbw7.trans (hb8.mono hbw7.size)
        clear hb8 hbw7
        go_wp2_with fail
        refine (Wakes_any _).mono ?_
        rintro e w9 ⟨rfl, hb9⟩
        go_wp2_with fail
        go_ret
        exact ⟨rfl, hbw8.trans (hb9.mono hbw8.size)⟩

set_option maxRecDepth 100000 in
set_option maxHeartbeats 2000000 in
theorem LineOwn_walk (A : Option Addr) (n c : Nat) (l : List Int) (x : Int) (w : World) (hl : Ints w w.heap.size A n l) (hnc : n ≤ c) (hm : n ≤ 9223372036854775807) :
    Calls Try.prog 6 #[.slice A n c, .int .i64 x] w fun e w' => e = .returned (.bool true) ∧ Below w.heap.size w w' := by
  by_cases hg : n ≤ 200
  · exact LineOwn_in A n c l x w hl hnc hg
  · have hrow : tooGreat [(A, n, c)] = true := by simp [tooGreat]; omega
    have HRW := Lib.hid hrow
    clear hrow hg
    go_enter Try.func6, Try.ntmps6
    go_wp2_with fail
    refine (Great_any _ _ _ _ [(A, n, c)] _ (rows_new1 w _ (A, n, c) _ rfl) (by omega) (by simpa using hm)).mono ?_
    rw [HRW.out]
    rintro e w' ⟨rfl, rfl⟩
    go_wp2_with fail
    refine (Wakes_any _).mono ?_
    rintro e w1 ⟨rfl, hb⟩
    go_wp2_with fail
    go_ret
    exact ⟨rfl, (Below.new_ _ _).trans (hb.mono (by simp))⟩
end Go.Proofs.Ytaajjojgpphjiaa
