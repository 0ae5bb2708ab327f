/-
  slices.Contains, IndexFunc, ContainsFunc at []int: for whatever test. Conditions: the row reads as a list of at most 100000 ints; the test's calls return and write nothing that was there.
-/
import Derived.Test.YtepofpbpolenlaaSlicesI
import Derived.Shelf.Abstract
namespace Go.Proofs.Ytepofpbpolenlaa
open Go.RowKit

theorem placeOf_nonneg (l : List Int) (x : Int) : decide (0 ≤ placeOf l x) = decide (x ∈ l) := by
  by_cases h : x ∈ l
  · have : ∃ k : Nat, placeOf l x = k := by
      unfold placeOf
      have hs : (l.findIdx? fun y => y == x).isSome = true := by
        rw [List.findIdx?_isSome, List.any_eq_true]
        exact ⟨x, h, by simp⟩
      obtain ⟨k, hk⟩ := Option.isSome_iff_exists.1 hs
      exact ⟨k, by rw [hk]⟩
    obtain ⟨k, hk⟩ := this
    rw [hk]
    simp [h]
  · rw [placeOf_miss h]
    simp [h]

theorem ContainsI_any (A : Option Addr) (n c B : Nat) (l : List Int) (x : Int) (w : World) (hl : Ints w B A n l) (hn : n ≤ 100000) :
    Calls Try.prog 33 #[.slice A n c, .int .i64 x] w fun e w' => e = .returned (.bool (decide (x ∈ l))) ∧ w = w' := by
  have HP := Lib.hid (placeOf_nonneg l x)
  go_enter Try.func33, Try.ntmps33
  go_wp2_with (go_at_call 46; refine (IndexI_any _ _ _ _ l _ _ hl hn).mono ?_; rintro e w' ⟨rfl, rfl⟩)
  go_ret
  exact ⟨ret_bool HP.out, rfl⟩

set_option maxHeartbeats 800000 in
theorem IndexFuncI_any (fid : FuncId) (eg : ∀ args w, (callFunc fid args).run Try.prog w = .ok (.enter fid args) w) (caps : Array Value) (p : Int → Bool) (A : Option Addr) (n c : Nat) (l : List Int) (w : World) (hl : Ints w w.heap.size A n l) (hn : n ≤ 100000)
    (hf : ∀ (x : Int) (wx : World), Below w.heap.size w wx → Calls Try.prog fid (#[.int .i64 x] ++ caps) wx fun e w' => e = .returned (.bool (p x)) ∧ Below wx.heap.size wx w') :
    Calls Try.prog 45 #[.slice A n c, .func (.func fid) #[] caps] w fun e w' => ∃ r : Int, e = .returned (.int .i64 r) ∧ decide (0 ≤ r) = l.any p ∧ Below w.heap.size w w' := by
  have HL := Lib.hid hl.len
  have HF := Lib.hid hf
  clear hf
  go_enter Try.func45, Try.ntmps45
  go_wp2_with fail
  go_loopw [8] (fun s8 wr => ∃ k : Nat, k ≤ n ∧ s8 = .int .i64 k ∧ Hid ((l.take k).any p = false) ∧ Below w.heap.size w wr) (fun s8 _ => n - (intOf s8).toNat)
  case atStart => exact ⟨0, Nat.zero_le _, rfl, by show _ = _; simp, Below.refl _ _⟩
  case round =>
    obtain ⟨k, hk, rfl, hno, hb⟩ := hrel
    by_cases hlt : k < n
    · obtain ⟨b, off, y, rfl, hbb, hy, hc⟩ := (hl.below hb).at_ hlt
      have hcall := HF.out y _ hb
      cases hp : p y
      all_goals
        rw [hp] at hcall
        have hno2 : Hid ((l.take (k + 1)).any p = p y) := by
          show _ = _
          rw [take_succ_of hy.out, List.any_append, hno.out]
          simp
        have HP := Lib.hid hp
        clear hp
        go_wp2_with (go_at_fn fid; refine hcall.mono ?_; rintro e w2 ⟨rfl, hb2⟩)
        first
          | (go_ret
             refine ⟨k, rfl, ?_, hb.trans (hb2.mono hb.size)⟩
             have h1 := hno2.out
             rw [HP.out, List.any_eq_true] at h1
             obtain ⟨z, hz, hz2⟩ := h1
             have : l.any p = true := List.any_eq_true.2 ⟨z, List.mem_of_mem_take hz, hz2⟩
             rw [this]; simp; done)
          | (go_roundw
             case rel => exact ⟨k + 1, by omega, by go_num, by show _ = _; rw [hno2.out, HP.out], hb.trans (hb2.mono hb.size)⟩
             case measure => simp [intOf]; omega)
    · have hfin : l.any p = false := by
        have := hno.out
        rwa [List.take_of_length_le (by rw [HL.out]; omega)] at this
      have HFIN := Lib.hid hfin
      clear hfin
      go_wp2_with fail
      go_ret
      exact ⟨-1, rfl, by rw [HFIN.out]; decide, hb⟩
theorem ContainsFuncI_any (fid : FuncId) (eg : ∀ args w, (callFunc fid args).run Try.prog w = .ok (.enter fid args) w) (caps : Array Value) (p : Int → Bool) (A : Option Addr) (n c : Nat) (l : List Int) (w : World) (hl : Ints w w.heap.size A n l) (hn : n ≤ 100000)
    (hf : ∀ (x : Int) (wx : World), Below w.heap.size w wx → Calls Try.prog fid (#[.int .i64 x] ++ caps) wx fun e w' => e = .returned (.bool (p x)) ∧ Below wx.heap.size wx w') :
    Calls Try.prog 31 #[.slice A n c, .func (.func fid) #[] caps] w fun e w' => e = .returned (.bool (l.any p)) ∧ Below w.heap.size w w' := by
  have HF := Lib.hid hf
  clear hf
  go_enter Try.func31, Try.ntmps31
  go_wp2_with fail
  refine (IndexFuncI_any fid eg caps p _ _ _ l _ hl hn HF.out).mono ?_
  rintro e w2 ⟨r, rfl, hr, hb⟩
  have HR := Lib.hid hr
  clear hr
  go_wp2_with fail
  go_ret
  exact ⟨ret_bool HR.out, hb⟩
end Go.Proofs.Ytepofpbpolenlaa
