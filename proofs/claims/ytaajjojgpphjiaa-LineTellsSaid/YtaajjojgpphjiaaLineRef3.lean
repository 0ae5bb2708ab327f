/-
  What the document's answer of chapter 4 computes: Drop, Turned. Conditions: the arguments read as lists of ints, of at most 100000 numbers.
-/
import Derived.Test.YtaajjojgpphjiaaLineRef2
namespace Go.Proofs.Ytaajjojgpphjiaa
open Go.RowKit

theorem erase_parts {r : List Int} {x : Int} {q : Nat} (h : r.eraseIdx q = r.erase x) : r.take q ++ r.drop (q + 1) = r.erase x := by rw [← h, List.eraseIdx_eq_take_drop_succ]

set_option maxRecDepth 100000 in
set_option maxHeartbeats 2000000 in
theorem rDrop4_any (A1 A2 : Option Addr) (n1 n2 c1 c2 : Nat) (l m : List Int) (w : World) (hl : Ints w w.heap.size A1 n1 l) (hm : Ints w w.heap.size A2 n2 m) (h1 : n1 ≤ 100000) (h2 : n2 ≤ 100000) :
    Calls Try.prog 18 #[.slice A1 n1 c1, .slice A2 n2 c2] w fun e w' => ∃ A' c', e = .returned (.tuple #[.slice A' (dropRun l m).1.length c', .int .i64 (dropRun l m).2]) ∧ OwI w' w.heap.size 3 A' (dropRun l m).1.length c' (dropRun l m).1 ∧ Below w.heap.size w w' := by
  have HL := Lib.hid hl.len
  have HM := Lib.hid hm.len
  have hz : 0 + n1 = n1 := Nat.zero_add _
  go_enter Try.func18, Try.ntmps18
  go_wp2_with fail
  refine (rPush4_any none _ 0 _ 0 _ 0 w.heap.size [] l _ (Ints.nil_ _ _ _) hl (Nat.zero_le _) (Nat.le_refl _) (by omega) h1).mono ?_
  rw [hz]
  clear hz
  rintro e w1 ⟨A3, c3, rfl, ho, hb⟩
  rw [List.nil_append] at ho
  go_wp2_with fail
  go_loopw [6, 7, 8] (fun s4 s5 s6 wr => DropInv w l m n2 s4 s5 s6 wr) (fun _ _ s6 _ => n2 - (intOf s6).toNat)
  case atStart => exact ⟨0, l, 0, A3, c3, Nat.zero_le _, Nat.le_refl _, Nat.le_refl _, rfl, by rw [HL.out], rfl, by rw [HL.out]; exact ho, hb, rfl⟩
  case round =>
    clear ho hb
    obtain ⟨k, r, g, A4, c4, hk, hrl, hgk, rfl, rfl, rfl, ho, hb, hrun⟩ := hrel
    have HR := Lib.hid hrun
    have hr5 : r.length ≤ 100000 := by have := HL.out; omega
    clear hrun
    by_cases hlt : k < n2
    · obtain ⟨b, off, x, rfl, hbb, hx, hc⟩ := (hm.below hb).at_ hlt
      by_cases hmem : x ∈ r
      · obtain ⟨q, hq, hql, hqe, _, _⟩ := placeOf_mem hmem
        have hrun2 : Hid (dropRun l (m.take (k + 1)) = (r.erase x, g + 1)) := by
          show _ = _
          rw [take_succ_of hx.out, dropRun_snoc, HR.out, if_pos hmem]
        have hqd : decide (0 ≤ (q : Int)) = true := by simp
        have hel : (r.erase x).length = r.length - 1 := List.length_erase_of_mem hmem
        have HEL := Lib.hid hel
        have HQP := Lib.hid (erase_parts hqe)
        have hi := ho.ints
        have hrc := ho.2.1
        obtain ⟨b4, o4, _, rfl, hbb4, _, _⟩ := hi.at_ hql
        have hp1 := hi.take1 (c := q) (by omega)
        have hp2 := hi.restK (k := q + 1) (by omega) hrc
        have hln : q + (r.length - (q + 1)) = r.length - 1 := by omega
        have HLN := Lib.hid hln
        clear hqe hel hmem hln
        by_cases hcq : c4 = q + 1
        all_goals
          first | rw [if_pos hcq] at hp2 | rw [if_neg hcq] at hp2
          go_wp2_with fail
          refine (rPlace4_any _ _ _ _ r _ _ hi hr5).mono ?_
          rw [hq]
          rintro e w' ⟨rfl, rfl⟩
          have HQ := Lib.hid hq
          clear hq
          have j1 : IntKind.i64.wrap ((q : Int) + 1) = (q : Int) + 1 := IntWalk.i64_in _ (by omega)
          have j2 : ((q : Int) + 1).toNat = q + 1 := by omega
          have j3 : (0 : Int) ≤ (q : Int) + 1 := by omega
          have j4 : (q : Int) + 1 ≤ (r.length : Int) := by omega
          have j5 : (r.length : Int) ≤ (c4 : Int) := by omega
          have j6 : (q : Int) ≤ (c4 : Int) := by omega
          have H1 : Hid (q ≤ 100000) := by show _ ≤ _; omega
          have H2 : Hid (r.length - (q + 1) ≤ 100000) := by show _ ≤ _; omega
          go_wp2_with fail
          go_region_with (go_at_call 20; refine (rPush4_any _ _ _ _ _ _ wr.heap.size wr.heap.size (r.take q) (r.drop (q + 1)) _ hp1.drew hp2.drew (Nat.le_refl _) (Nat.le_refl _) H1.out H2.out).mono ?_; rw [HLN.out, HQP.out]; rintro e w2 ⟨A5, c5, rfl, ho2, hb2⟩)
          replace hb2 : Below wr.heap.size wr w2 := Below.trans (Below.refl wr.heap.size wr).drew hb2
          clear j1 j2 j3 j4 j5 j6
          have hbw := hb.trans (hb2.mono hb.size)
          replace ho2 := Ow.rebase ho2 (base' := w.heap.size) hb.size
          clear hb2 hi ho hp1 hp2
          go_wp2_with fail
          go_roundw
          case rel =>
            refine ⟨k + 1, r.erase x, g + 1, A5, c5, by omega, ?_, by omega, by go_num, ?_, by go_num, ?_, hbw, hrun2.out⟩
            · rw [HEL.out]; omega
            · rw [HEL.out]
            · rw [HEL.out]; exact ho2
          case measure => simp [intOf]; omega
      · have hq := placeOf_miss hmem
        have hrun2 : Hid (dropRun l (m.take (k + 1)) = (r, g)) := by
          show _ = _
          rw [take_succ_of hx.out, dropRun_snoc, HR.out, if_neg hmem]
        have HMM := Lib.hid hmem
        clear hmem
        go_wp2_with fail
        refine (rPlace4_any _ _ _ _ r _ _ ho.ints hr5).mono ?_
        rw [hq]
        clear hq
        rintro e w' ⟨rfl, rfl⟩
        go_wp2_with fail
        go_roundw
        case rel => exact ⟨k + 1, r, g, A4, c4, by omega, hrl, by omega, by go_num, rfl, rfl, ho, hb, hrun2.out⟩
        case measure => simp [intOf]; omega
    · have hfin : dropRun l m = (r, g) := by
        have := HR.out
        rwa [List.take_of_length_le (by rw [HM.out]; omega)] at this
      have HF := Lib.hid hfin
      clear hfin
      go_wp2_with fail
      go_ret2
      exact ⟨A4, c4, by rw [HF.out]; rfl, by rw [HF.out]; exact ho, hb⟩
def TurnInv (w : World) (l : List Int) (n : Nat) (s2 s3 : Value) (wr : World) : Prop :=
  ∃ (k q : Nat) (A' : Option Addr) (c' : Nat), k + q = n ∧ s3 = .int .i64 ((q : Int) - 1) ∧ s2 = .slice A' k c' ∧ OwI wr w.heap.size 3 A' k c' (l.drop q).reverse ∧ Below w.heap.size w wr
set_option maxRecDepth 100000 in
set_option maxHeartbeats 2000000 in
theorem rTurned4_any (A : Option Addr) (n c : Nat) (l : List Int) (w : World) (hl : Ints w w.heap.size A n l) (hn : n ≤ 100000) :
    Calls Try.prog 23 #[.slice A n c] w fun e w' => ∃ A' c', e = .returned (.slice A' n c') ∧ OwI w' w.heap.size 3 A' n c' l.reverse ∧ Below w.heap.size w w' := by
  have HL := Lib.hid hl.len
  go_enter Try.func23, Try.ntmps23
  go_wp2_with fail
  go_loopw [3, 4] (fun s2 s3 wr => TurnInv w l n s2 s3 wr) (fun _ s3 _ => ((intOf s3) + 1).toNat)
  case atStart => exact ⟨0, n, none, 0, by omega, rfl, rfl, by rw [List.drop_of_length_le (by rw [HL.out]; omega)]; exact OwI.nil_ _ _ _ _, Below.refl _ _⟩
  case round =>
    obtain ⟨k, q, A1, c1, hkq, rfl, rfl, ho, hb⟩ := hrel
    by_cases hlt : 0 < q
    · obtain ⟨b, off, x, rfl, hbb, hx, hc⟩ := (hl.below hb).at_ (show q - 1 < n by omega)
      have hd : (l.drop (q - 1)).reverse = (l.drop q).reverse ++ [x] := by
        have h1 : q - 1 < l.length := by rw [HL.out]; omega
        rw [List.drop_eq_getElem_cons h1, List.reverse_cons, Nat.sub_add_cancel hlt]
        have := hx.out
        rw [List.getElem?_eq_getElem h1] at this
        injection this with this
        rw [this]
      have HD := Lib.hid hd
      clear hd
      have i1 : (1 : Int) ≤ (q : Int) := by omega
      have i2 : (0 : Int) ≤ (q : Int) - 1 := by omega
      have i3 : (q : Int) - 1 < (n : Int) := by omega
      have i4 : ((q : Int) - 1).toNat = q - 1 := by omega
      go_wp2_with (at_builtin; refine wpList_appI _ rfl (.tmp 12) (.tmp 17) rfl w.heap.size _ _ _ _ rfl (ho.alloc _) _ _ _ _ _ rfl (Ints.at1_ _ _ _ _ (by simp)) (by omega) (by have := hb.size; simp; omega) ?_; intro A2 c2 w2 ho2 hg2 hr2)
      rw [← HD.out] at ho2
      have hbw : Below w.heap.size w w2 := (hb.alloc hb.size _).grown hg2 (by have := hb.size; simp; omega) (fun g hg => (Ow.row ho g hg).1)
      clear hg2 hr2
      go_wp2_with fail
      go_roundw
      case rel => exact ⟨k + 1, q - 1, A2, c2, by omega, by congr 1; omega, rfl, ho2, hbw⟩
      case measure => simp [intOf]; omega
    · obtain rfl : q = 0 := by omega
      obtain rfl : k = n := by omega
      go_wp2_with fail
      go_ret
      exact ⟨A1, c1, rfl, by simpa using ho, hb⟩
end Go.Proofs.Ytaajjojgpphjiaa
