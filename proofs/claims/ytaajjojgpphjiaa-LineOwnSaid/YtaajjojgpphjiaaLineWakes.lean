/-
  The statements' own example of chapter 4, and their question whether a row is too great. Conditions: the rows are slices of ints that are there.
-/
import Derived.Test.YtaajjojgpphjiaaLine
namespace Go.Proofs.Ytaajjojgpphjiaa
open Go.RowKit

theorem Ints.cells3 {w : World} {B : Nat} {A : Option Addr} {a b c : Int} (h : Ints w B A 3 [a, b, c]) : ∃ g off, A = some ⟨g, off, none⟩ ∧ g < B ∧ w.cell? ⟨g, off + 2, none⟩ = some (.int .i64 c) := by
  obtain ⟨g, off, x, e, hg, hx, hc⟩ := h.at_ (show 2 < 3 by omega)
  have := hx.out
  simp at this
  subst this
  exact ⟨g, off, e, hg, hc⟩

set_option maxRecDepth 100000 in
set_option maxHeartbeats 2000000 in
theorem Wakes_any (w : World) : Calls Try.prog 9 #[] w fun e w' => e = .returned (.bool true) ∧ Below w.heap.size w w' := by
  go_enter Try.func9, Try.ntmps9
  go_wp2_with fail
  refine (Push_any _ _ 2 1 _ _ [1, 2] [3] _ ((Ints.at2_ _ _ 1 2 _ rfl).alloc (by simp) _ |>.more (by simp)) (Ints.at1_ _ _ 3 _ (by simp)|>.more (by simp)) (by omega) (by omega) (by omega)).mono ?_
  rintro e w1 ⟨A1, c1, rfl, ho1, hb1⟩
  have hbw1 : Below w.heap.size w w1 := Below.trans (b := ((w.alloc _).alloc _)) ((Below.new_ _ _).alloc (by simp) _) (hb1.mono (by simp; omega))
  clear hb1
  go_wp2_with fail
  refine (Front_any _ _ _ _ _ ho1.ints (by omega) ho1.2.1).mono ?_
  rintro e w2 ⟨A2, c2, rfl, ho2, hb2⟩
  go_wp2_with fail
  refine (Drop_any _ _ 3 2 _ _ [1, 2, 1] [1, 9] _ ((Ints.at3_ _ _ 1 2 1 _ rfl).alloc (by simp) _ |>.more (by simp)) (Ints.at2_ _ _ 1 9 _ (by simp)|>.more (by simp)) (by omega) (by omega)).mono ?_
  have hd : dropRun [1, 2, 1] [1, 9] = ([2, 1], 1) := by decide
  rw [hd]
  clear hd
  rintro e w3 ⟨A3, c3, rfl, ho3, hb3⟩
  have hbw2 := hbw1.trans (hb2.mono hbw1.size)
  have h1 : Ints w3 w3.heap.size A1 3 [1, 2, 3] := ((ho1.ints.below hb2).more hb2.size).alloc (Nat.le_refl _) _ |>.alloc (by simp) _ |>.more (by simp <;> omega) |>.below hb3 |>.more hb3.size
  have h2 : Ints w3 w3.heap.size A2 2 [2, 3] := (ho2.ints.alloc (Nat.le_refl _) _).alloc (by simp) _ |>.more (by simp <;> omega) |>.below hb3 |>.more hb3.size
  have hbw3 := (hbw2.alloc hbw2.size _).alloc (by have := hbw2.size; simp; omega) _ |>.trans (hb3.mono (by have := hbw2.size; simp; omega))
  have h3 : Ints w3 w3.heap.size A3 2 [2, 1] := ho3.ints
  clear hbw2 hbw1 hb2 ho1 ho2 hb3 ho3
  obtain ⟨b1, o1, rfl, hbb1, hc1⟩ := h1.cells3
  go_wp2_with fail
  refine (Same_any _ _ 2 2 _ _ [2, 3] [2, 3] _ (h2.alloc (Nat.le_refl _) _ |>.more (by simp)) (Ints.at2_ _ _ 2 3 _ rfl |>.more (by simp)) (by omega) (by omega)).mono ?_
  have hd : sameL [2, 3] [2, 3] = true := by decide
  rw [hd]
  clear hd
  rintro e w4 ⟨rfl, hb4⟩
  have hbw4 := (hbw3.alloc hbw3.size _) |>.trans (hb4.mono (by have := hbw3.size; simp; omega))
  replace h3 := (h3.alloc (Nat.le_refl _) _).more (by simp) |>.below hb4 |>.more hb4.size
  clear hbw3 hb4 h1 hbb1 hc1 h2
  go_wp2_with fail
  refine (Same_any _ _ 2 2 _ _ [2, 1] [2, 1] _ (h3.alloc (Nat.le_refl _) _ |>.more (by simp)) (Ints.at2_ _ _ 2 1 _ rfl |>.more (by simp)) (by omega) (by omega)).mono ?_
  have hd : sameL [2, 1] [2, 1] = true := by decide
  rw [hd]
  clear hd
  rintro e w5 ⟨rfl, hb5⟩
  have hbw5 := (hbw4.alloc hbw4.size _) |>.trans (hb5.mono (by have := hbw4.size; simp; omega))
  clear hbw4 hb5 h3
  go_wp2_with fail
  go_ret
  exact ⟨rfl, hbw5⟩

abbrev Row := Option Addr × Nat × Nat
def rowVal (r : Row) : Value := .slice r.1 r.2.1 r.2.2
def tooGreat (vs : List Row) : Bool := vs.any fun v => decide (200 < v.2.1)
theorem Great_any (A : Option Addr) (n c B : Nat) (vs : List Row) (w : World) (h : Sl w B 1 A n (vs.map rowVal)) (hn : n ≤ 100000) (hv : ∀ v ∈ vs, v.2.1 ≤ 9223372036854775807) :
    Calls Try.prog 8 #[.slice A n c] w fun e w' => e = .returned (.bool (tooGreat vs)) ∧ w = w' := by
  have HL : Hid (vs.length = n) := by have := h.1; show _ = _; simpa using this
  go_enter Try.func8, Try.ntmps8
  go_wp2
  go_loop [3] (fun s3 => ∃ k : Nat, k ≤ n ∧ s3 = .int .i64 k ∧ Hid (tooGreat (vs.take k) = false)) (fun s3 => n - (intOf s3).toNat)
  case atStart => exact ⟨0, Nat.zero_le _, rfl, rfl⟩
  case round =>
    obtain ⟨k, hk, rfl, hno⟩ := hrel
    by_cases hlt : k < n
    · obtain ⟨b, off, y, rfl, hbb, hy, hc⟩ := h.at1 hlt
      rw [List.getElem?_map, Option.map_eq_some_iff] at hy
      obtain ⟨⟨A1, n1, c1⟩, hy, rfl⟩ := hy
      have hm := hv _ (List.mem_of_getElem? hy)
      replace hm : n1 ≤ 9223372036854775807 := hm
      replace hc : w.cell? ⟨b, off + k, none⟩ = some (.slice A1 n1 c1) := hc
      by_cases hxy : 200 < n1
      · have hb0 : decide ((200 : Int) < (n1 : Int)) = true := by simp; omega
        have hres : tooGreat vs = true := by
          unfold tooGreat
          rw [List.any_eq_true]
          exact ⟨_, List.mem_of_getElem? hy, by simpa using hxy⟩
        have HR := Lib.hid hres
        clear hres hy
        go_wp2
        go_ret
        exact ⟨ret_bool HR.out.symm, rfl⟩
      · have hb0 : decide ((200 : Int) < (n1 : Int)) = false := by simp; omega
        have hno2 : Hid (tooGreat (vs.take (k + 1)) = false) := by
          show _ = _
          have := hno.out
          unfold tooGreat at this ⊢
          rw [take_succ_of hy, List.any_append, this]
          simpa using hxy
        have HX := Lib.hid hxy
        clear hxy hy
        go_wp2
        go_round
        case rel => exact ⟨k + 1, by omega, by go_num, hno2⟩
        case measure => simp [intOf]; omega
    · have hres : tooGreat vs = false := by
        have := hno.out
        rwa [List.take_of_length_le (by rw [HL.out]; omega)] at this
      have HR := Lib.hid hres
      clear hres
      go_wp2
      go_ret
      exact ⟨ret_bool HR.out.symm, rfl⟩

theorem rows_new1 (w : World) (g : Nat) (r : Row) (e : TypeId) (h : g = w.heap.size) : Sl (w.alloc (.cells #[rowVal r] e)) (g + 1) 1 (some ⟨g, 0, none⟩) 1 ([r].map rowVal) := by
  subst h
  refine ⟨by simp, fun _ _ => ⟨_, 0, rfl, Nat.lt_succ_self _, fun j u hu => ?_⟩⟩
  rw [cell_of_row _ w.heap.size (0 + j) _ e (0, 0) (heap_alloc_new w _)]
  simpa using hu
theorem rows_new2 (w : World) (g : Nat) (r s : Row) (e : TypeId) (h : g = w.heap.size) : Sl (w.alloc (.cells #[rowVal r, rowVal s] e)) (g + 1) 1 (some ⟨g, 0, none⟩) 2 ([r, s].map rowVal) := by
  subst h
  refine ⟨by simp, fun _ _ => ⟨_, 0, rfl, Nat.lt_succ_self _, fun j u hu => ?_⟩⟩
  rw [cell_of_row _ w.heap.size (0 + j) _ e (0, 0) (heap_alloc_new w _)]
  simpa using hu
end Go.Proofs.Ytaajjojgpphjiaa
