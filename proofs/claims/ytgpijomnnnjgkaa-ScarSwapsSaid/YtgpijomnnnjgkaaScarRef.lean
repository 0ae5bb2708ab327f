/-
  What switchboardref12.without computes. Conditions: the slice reads as a list of at most 1000.
-/
import Derived.Test.YtgpijomnnnjgkaaScar6
import Derived.BigQuiet
namespace Go.Proofs.Ytgpijomnnnjgkaa
open Go.RowKit Go.Shelf

theorem healR_one (y : Ad) (x : Sc) : healR [y] x = !decide (x.1 = y) := by simp [healR]
set_option maxRecDepth 100000 in
set_option maxHeartbeats 3000000 in
theorem without_any (A : Option Addr) (n c : Nat) (l : List Sc) (y : Ad) (w : World) (hl : Scs w w.heap.size A n l) (hn : n ≤ 1000) :
    Calls Try.prog 31 #[.slice A n c, .agg #[.int .i8 y.1, .int .u16 y.2.1, .int .u16 y.2.2.1, .int .u16 y.2.2.2.1, .int .u16 y.2.2.2.2.1, .int .u16 y.2.2.2.2.2.1, .int .u16 y.2.2.2.2.2.2.1, .int .u16 y.2.2.2.2.2.2.2.1, .int .u16 y.2.2.2.2.2.2.2.2.1, .int .i64 y.2.2.2.2.2.2.2.2.2]] w fun e w' => ∃ A' c', e = .returned (.slice A' (healL l [y]).length c') ∧ OwSc w' w.heap.size A' (healL l [y]).length c' (healL l [y]) ∧ Below w.heap.size w w' := by
  have HL := Lib.hid hl.1
  have hla := ((hl.alloc (Nat.le_refl _) (.cells #[.int .i8 y.1, .int .u16 y.2.1, .int .u16 y.2.2.1, .int .u16 y.2.2.2.1, .int .u16 y.2.2.2.2.1, .int .u16 y.2.2.2.2.2.1, .int .u16 y.2.2.2.2.2.2.1, .int .u16 y.2.2.2.2.2.2.2.1, .int .u16 y.2.2.2.2.2.2.2.2.1, .int .i64 y.2.2.2.2.2.2.2.2.2] 31)).more (Nat.le_succ _))
  have hba : Below w.heap.size w (w.alloc (.cells #[.int .i8 y.1, .int .u16 y.2.1, .int .u16 y.2.2.1, .int .u16 y.2.2.2.1, .int .u16 y.2.2.2.2.1, .int .u16 y.2.2.2.2.2.1, .int .u16 y.2.2.2.2.2.2.1, .int .u16 y.2.2.2.2.2.2.2.1, .int .u16 y.2.2.2.2.2.2.2.2.1, .int .i64 y.2.2.2.2.2.2.2.2.2] 31)) := Below.new_ w _
  have hya : (w.alloc (.cells #[.int .i8 y.1, .int .u16 y.2.1, .int .u16 y.2.2.1, .int .u16 y.2.2.2.1, .int .u16 y.2.2.2.2.1, .int .u16 y.2.2.2.2.2.1, .int .u16 y.2.2.2.2.2.2.1, .int .u16 y.2.2.2.2.2.2.2.1, .int .u16 y.2.2.2.2.2.2.2.2.1, .int .i64 y.2.2.2.2.2.2.2.2.2] 31)).heap[w.heap.size]? = some (.cells #[.int .i8 y.1, .int .u16 y.2.1, .int .u16 y.2.2.1, .int .u16 y.2.2.2.1, .int .u16 y.2.2.2.2.1, .int .u16 y.2.2.2.2.2.1, .int .u16 y.2.2.2.2.2.2.1, .int .u16 y.2.2.2.2.2.2.2.1, .int .u16 y.2.2.2.2.2.2.2.2.1, .int .i64 y.2.2.2.2.2.2.2.2.2] 31 (0, 0)) := heap_alloc_new w _
  go_enter Try.func31, Try.ntmps31
  go_wp2_with fail
  go_loopw [5, 6] (fun s5 s6 wr => ∃ (k m : Nat) (A' : Option Addr) (c' : Nat), k ≤ n ∧ m ≤ k ∧ s6 = .int .i64 k ∧ s5 = .slice A' m c' ∧ OwSc wr (w.heap.size + 1) A' m c' ((l.take k).filter (healR [y])) ∧ Below (w.heap.size + 1) (w.alloc (.cells #[.int .i8 y.1, .int .u16 y.2.1, .int .u16 y.2.2.1, .int .u16 y.2.2.2.1, .int .u16 y.2.2.2.2.1, .int .u16 y.2.2.2.2.2.1, .int .u16 y.2.2.2.2.2.2.1, .int .u16 y.2.2.2.2.2.2.2.1, .int .u16 y.2.2.2.2.2.2.2.2.1, .int .i64 y.2.2.2.2.2.2.2.2.2] 31)) wr) (fun _ s6 _ => n - (intOf s6).toNat)
  case atStart => exact ⟨0, 0, none, 0, Nat.zero_le _, Nat.le_refl _, rfl, rfl, OwR.nil_ _ _ _ _, Below.refl _ _⟩
  case round =>
    obtain ⟨k, m, A1, c1, hk, hmk, rfl, rfl, ho, hb⟩ := hrel
    have hbw := hba.trans (hb.mono (Nat.le_succ _))
    have hsz : w.heap.size + 1 ≤ wr.heap.size := by have := hb.size; simpa using this
    by_cases hlt : k < n
    · obtain ⟨b, off, x, rfl, hbb, hx, hc0, hc1, hc2, hc3, hc4, hc5, hc6, hc7, hc8, hc9, hc10⟩ := Scs.cells (hla.below hb) hlt
      obtain ⟨z0, z1, z2, z3, z4, z5, z6, z7, z8, z9⟩ := ad_cells ((hb.block _ (Nat.lt_succ_self _)).trans hya)
      have hE := fun wx => eqAd x.1 y wx
      unfold valAd at hE
      by_cases hp : x.1 = y
      · have hm : (l.take (k + 1)).filter (healR [y]) = (l.take k).filter (healR [y]) := by rw [take_succ_of hx.out, List.filter_append]; simp [healR_one, hp]
        have HM := Lib.hid hm
        rw [decide_eq_true hp] at hE
        clear hm hp
        go_upto_region 5 with fail
        go_quiet (fail)
        go_wp2_with fail
        go_roundw
        case rel => exact ⟨k + 1, m, A1, c1, by omega, by omega, by go_num, rfl, by rw [HM.out]; first | exact ho | exact ho.drew | exact ho.drewN _, by first | exact hb | exact hb.drew | exact below_drewN hb _⟩
        case measure => simp [intOf]; omega
      · have hm : (l.take (k + 1)).filter (healR [y]) = (l.take k).filter (healR [y]) ++ [x] := by rw [take_succ_of hx.out, List.filter_append]; simp [healR_one, hp]
        have HM := Lib.hid hm
        rw [decide_eq_false hp] at hE
        clear hm hp
        go_upto_region 5 with fail
        go_quiet (fail)
        go_wp2_with (at_builtin; refine wpList_appSc _ rfl (.tmp 20) (.tmp 25) rfl (w.heap.size + 1) _ _ _ _ rfl (by first | exact (ho.drewN _).alloc _ | exact ho.drew.alloc _ | exact ho.alloc _) _ _ _ _ [x] rfl (Scs.new1 _ _ (by simp) x _) (by omega) (by simp; omega) ?_; intro A3 c3 w3 ho3 hg3 hr3)
        have hb3 : Below (w.heap.size + 1) (w.alloc (.cells #[.int .i8 y.1, .int .u16 y.2.1, .int .u16 y.2.2.1, .int .u16 y.2.2.2.1, .int .u16 y.2.2.2.2.1, .int .u16 y.2.2.2.2.2.1, .int .u16 y.2.2.2.2.2.2.1, .int .u16 y.2.2.2.2.2.2.2.1, .int .u16 y.2.2.2.2.2.2.2.2.1, .int .i64 y.2.2.2.2.2.2.2.2.2] 31)) w3 := by
          first
            | exact ((below_drewN hb _).alloc (by simpa using hsz) _).grown hg3 (by simp; omega) (fun g hg => (Ow.row ho.2 g hg).1)
            | exact (hb.drew.alloc (by simpa using hsz) _).grown hg3 (by simp; omega) (fun g hg => (Ow.row ho.2 g hg).1)
        rw [← HM.out] at ho3
        clear hg3 hr3
        go_wp2_with fail
        go_roundw
        case rel => exact ⟨k + 1, m + 1, A3, c3, by omega, by omega, by go_num, rfl, ho3, hb3⟩
        case measure => simp [intOf]; omega
    · obtain rfl : k = n := by omega
      have ht : l.take k = l := List.take_of_length_le (by rw [HL.out]; omega)
      rw [ht] at ho
      have HM := Lib.hid ho.1
      clear ht
      go_wp2_with fail
      go_ret
      exact ⟨A1, c1, by show _ = Ending.returned (.slice A1 (l.filter (healR [y])).length c1); rw [HM.out]; rfl, by show OwSc _ _ _ (l.filter (healR [y])).length _ (l.filter (healR [y])); rw [HM.out]; exact ⟨ho.1, Ow.rebase ho.2 (Nat.le_succ _)⟩, hbw⟩
end Go.Proofs.Ytgpijomnnnjgkaa
