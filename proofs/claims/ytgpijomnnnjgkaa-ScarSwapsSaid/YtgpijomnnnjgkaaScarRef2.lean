/-
  What Fresh, Worst and Heal of switchboardref12 compute. Conditions: the slices read as lists of at most 1000.
-/
import Derived.Test.YtgpijomnnnjgkaaScarRef
import Derived.Test.YtgpijomnnnjgkaaAgeRef
namespace Go.Proofs.Ytgpijomnnnjgkaa
open Go.RowKit Go.Shelf

set_option maxRecDepth 100000 in
set_option maxHeartbeats 3000000 in
theorem rFresh_any (A : Option Addr) (n c : Nat) (l : List Sc) (long now : Int) (w : World) (hl : Scs w w.heap.size A n l) (hn : n ≤ 1000) :
    Calls Try.prog 20 #[.slice A n c, .int .i64 long, .int .i64 now] w fun e w' => ∃ A' c', e = .returned (.slice A' (l.filter (freshR long now)).length c') ∧ OwSc w' w.heap.size A' (l.filter (freshR long now)).length c' (l.filter (freshR long now)) ∧ Below w.heap.size w w' := by
  have HL := Lib.hid hl.1
  go_enter Try.func20, Try.ntmps20
  go_wp2_with fail
  go_loopw [7, 8] (fun s7 s8 wr => ∃ (k m : Nat) (A' : Option Addr) (c' : Nat), k ≤ n ∧ m ≤ k ∧ s8 = .int .i64 k ∧ s7 = .slice A' m c' ∧ OwSc wr w.heap.size A' m c' ((l.take k).filter (freshR long now)) ∧ Below w.heap.size w wr) (fun _ s8 _ => n - (intOf s8).toNat)
  case atStart => exact ⟨0, 0, none, 0, Nat.zero_le _, Nat.le_refl _, rfl, rfl, OwR.nil_ _ _ _ _, Below.refl _ _⟩
  case round =>
    obtain ⟨k, m, A1, c1, hk, hmk, rfl, rfl, ho, hb⟩ := hrel
    have hsz := hb.size
    by_cases hlt : k < n
    · obtain ⟨b, off, x, rfl, hbb, hx, hc0, hc1, hc2, hc3, hc4, hc5, hc6, hc7, hc8, hc9, hc10⟩ := Scs.cells (hl.below hb) hlt
      have hcall := rOld_any x.2 long now wr
      cases hp : oldB x.2 long now
      · rw [hp] at hcall
        have hm : (l.take (k + 1)).filter (freshR long now) = (l.take k).filter (freshR long now) ++ [x] := by rw [take_succ_of hx.out, List.filter_append]; simp [freshR, hp]
        have HM := Lib.hid hm
        clear hm hp
        go_upto_region 6 with (go_at_call 32; refine hcall.mono ?_; rintro e w2 ⟨rfl, hb2⟩)
        obtain ⟨b', off', x', e', hbb', hx', hd0, hd1, hd2, hd3, hd4, hd5, hd6, hd7, hd8, hd9, hd10⟩ := Scs.cells (hl.below (hb.trans (hb2.mono hsz))) hlt
        injection e' with e'
        injection e' with e1 e2
        subst e1 e2
        have h2 := hx'.out
        rw [hx.out] at h2
        injection h2 with h2
        subst h2
        have hbw := hb.trans (hb2.mono hsz)
        have ho2 := OwR.below ho hb2
        have hsz2 := hbw.size
        clear hc0 hc1 hc2 hc3 hc4 hc5 hc6 hc7 hc8 hc9 hc10 hcall ho hb hb2
        go_wp2_with (at_builtin; refine wpList_appSc _ rfl (.tmp 24) (.tmp 29) rfl w.heap.size _ _ _ _ rfl (ho2.alloc _) _ _ _ _ [x] rfl (Scs.new1 _ _ (by simp) x _) (by omega) (by simp; omega) ?_; intro A3 c3 w3 ho3 hg3 hr3)
        have hbw3 : Below w.heap.size w w3 := (hbw.alloc hsz2 _).grown hg3 (by simp; omega) (fun g hg => (Ow.row ho2.2 g hg).1)
        rw [← HM.out] at ho3
        clear hg3 hr3
        go_wp2_with fail
        go_roundw
        case rel => exact ⟨k + 1, m + 1, A3, c3, by omega, by omega, by go_num, rfl, ho3, hbw3⟩
        case measure => simp [intOf]; omega
      · rw [hp] at hcall
        have hm : (l.take (k + 1)).filter (freshR long now) = (l.take k).filter (freshR long now) := by rw [take_succ_of hx.out, List.filter_append]; simp [freshR, hp]
        have HM := Lib.hid hm
        clear hm hp
        go_wp2_with (go_at_call 32; refine hcall.mono ?_; rintro e w2 ⟨rfl, hb2⟩)
        have hbw := hb.trans (hb2.mono hsz)
        have ho2 := OwR.below ho hb2
        go_roundw
        case rel => exact ⟨k + 1, m, A1, c1, by omega, by omega, by go_num, rfl, by rw [HM.out]; exact ho2, hbw⟩
        case measure => simp [intOf]; omega
    · obtain rfl : k = n := by omega
      have ht : l.take k = l := List.take_of_length_le (by rw [HL.out]; omega)
      rw [ht] at ho
      have HM := Lib.hid ho.1
      clear ht
      go_wp2_with fail
      go_ret
      exact ⟨A1, c1, by rw [HM.out]; rfl, by rw [HM.out]; exact ho, hb⟩
end Go.Proofs.Ytgpijomnnnjgkaa
