/-
  What switchboardref04.Place computes: where a number stands. Conditions: the row reads as a list of ints, of at most 100000 numbers.
-/
import Derived.Test.YtepofpbpolenlaaSlicesI
namespace Go.Proofs.Ytepofpbpolenlaa
open Go.RowKit
theorem first_of_mem : ∀ {l : List Int} {x : Int}, x ∈ l → ∃ k : Nat, l[k]? = some x ∧ x ∉ l.take k ∧ l.eraseIdx k = l.erase x
  | [], _, h => absurd h (by simp)
  | y :: ys, x, h => by
    by_cases e : y = x
    · subst e
      exact ⟨0, rfl, by simp, by simp⟩
    · obtain ⟨k, h1, h2, h3⟩ := first_of_mem (l := ys) (x := x) (by
        rcases List.mem_cons.1 h with h | h
        · exact absurd h.symm e
        · exact h)
      refine ⟨k + 1, by simpa using h1, ?_, ?_⟩
      · simp only [List.take_succ_cons, List.mem_cons, not_or]
        exact ⟨fun h => e h.symm, h2⟩
      · rw [List.eraseIdx_cons_succ, h3, List.erase_cons_tail (by simpa using e)]
theorem placeOf_mem {l : List Int} {x : Int} (h : x ∈ l) : ∃ k : Nat, placeOf l x = k ∧ k < l.length ∧ l.eraseIdx k = l.erase x ∧ l[k]? = some x ∧ x ∉ l.take k := by
  obtain ⟨k, h1, h2, h3⟩ := first_of_mem h
  exact ⟨k, placeOf_hit h1 h2, (List.getElem?_eq_some_iff.1 h1).1, h3, h1, h2⟩

theorem rPlace4_any (A : Option Addr) (n c B : Nat) (l : List Int) (x : Int) (w : World) (hl : Ints w B A n l) (hn : n ≤ 100000) :
    Calls Try.prog 20 #[.slice A n c, .int .i64 x] w fun e w' => e = .returned (.int .i64 (placeOf l x)) ∧ w = w' := by
  have HL := Lib.hid hl.len
  go_enter Try.func20, Try.ntmps20
  go_wp2
  go_loop [5] (fun s8 => ∃ k : Nat, k ≤ n ∧ s8 = .int .i64 k ∧ Hid (x ∉ l.take k)) (fun s8 => n - (intOf s8).toNat)
  case atStart => exact ⟨0, Nat.zero_le _, rfl, by show _ ∉ _; simp⟩
  case round =>
    obtain ⟨k, hk, rfl, hno⟩ := hrel
    by_cases hlt : k < n
    · obtain ⟨b, off, y, rfl, hbb, hy, hc⟩ := hl.at_ hlt
      by_cases hxy : y = x
      · subst hxy
        have hb0 : (y == y) = true := by simp
        have hres := placeOf_hit hy.out hno.out
        have HR := Lib.hid hres
        clear hres
        go_wp2
        go_ret
        exact ⟨ret_int HR.out.symm, rfl⟩
      · have hb0 : (y == x) = false := by simpa using hxy
        have hno2 : Hid (x ∉ l.take (k + 1)) := by
          show x ∉ _
          rw [take_succ_of hy.out]
          simp only [List.mem_append, List.mem_singleton, not_or]
          exact ⟨hno.out, fun h => hxy h.symm⟩
        have HX := Lib.hid hxy
        clear hxy
        go_wp2
        go_round
        case rel => exact ⟨k + 1, by omega, by go_num, hno2⟩
        case measure => simp [intOf]; omega
    · have hres : placeOf l x = -1 := placeOf_miss (by
        have := hno.out
        rwa [List.take_of_length_le (by rw [HL.out]; omega)] at this)
      have HR := Lib.hid hres
      clear hres
      go_wp2
      go_ret
      exact ⟨ret_int HR.out.symm, rfl⟩
end Go.Proofs.Ytepofpbpolenlaa
