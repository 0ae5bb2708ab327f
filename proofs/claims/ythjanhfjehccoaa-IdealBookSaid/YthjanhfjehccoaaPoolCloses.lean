/-
  What a pool's closes computes. Conditions: rows of at most 900.
-/
import Derived.Test.YthjanhfjehccoaaPoolSet
namespace Go.Proofs.Ythjanhfjehccoaa
set_option linter.unusedVariables false
set_option linter.unusedSimpArgs false
open Go.RowKit

set_option maxRecDepth 100000 in
set_option maxHeartbeats 4000000 in
theorem closes_any [Inhabited Ex] (base g : Nat) (x : Pol) (a : PlA) (w : World) (h : PlIs base w g x a) (hn : x.p.rep.length + x.i.line.length ≤ 800) (hsn : x.p.shut.length + x.i.free.length + x.i.out.length ≤ 900) :
    Calls Try.prog 51 #[.pointer (some ⟨g, 0, none⟩)] w fun en w' => PlPost base g a x.closes w en w' := by
  have hR := refuses_any base g x a w h (by omega)
  obtain ⟨cl, hcl⟩ : ∃ b, Hid (x.i.closed = b) := ⟨_, rfl⟩
  rw [hcl.out] at hR
  go_enter Try.func51, Try.ntmps51
  go_wp2_with fail
  refine hR.mono ?_
  rintro e w1 ⟨a1, rfl, h1, hb1, hC1⟩
  rw [hcl.out]
  cases cl
  · rw [if_neg (by simp)] at h1
    have hy : x.closes = (({ ((x.all_ 240).shuts (x.i.free.map (·.1))).shuts x.i.out with i := { x.i with line := [], free := [], out := [], closed := true } } : Pol)).says x.p.caller (-1) 0 := by
      unfold Pol.closes
      rw [if_neg (by rw [hcl.out]; simp)]
    have HY := Lib.hid hy
    clear hy hR h
    go_wp2_with fail
    refine (all_any base g x a1 240 w1 h1 (by omega)).mono ?_
    rintro en w2 ⟨a2, rfl, h2, hb2, hC2⟩
    obtain ⟨fA, hfA⟩ : ∃ v, Hid (a2.fA = v) := ⟨_, rfl⟩
    obtain ⟨n, hnl⟩ : ∃ n, Hid (x.i.free.length = n) := ⟨_, rfl⟩
    have c9 : w2.cell? ⟨g, 9, none⟩ = some (.slice fA n a2.fc) := by rw [← hfA.out, ← hnl.out]; exact h2.row.cell rfl
    have HL : Stay (fun b => b ∉ plOwn g a2) w2 (fun w'' => Res w'' w''.heap.size fA n x.i.free) := fun w'' hs hb => by rw [← hfA.out, ← hnl.out]; exact (h2.lists w'' hs hb).1
    rw [hnl.out] at hsn
    have hbw2 := Lib.hid (hb1.trans hb2)
    have hCw2 := Lib.hid (hC1.trans hC2)
    clear h1 hb1 hb2 hC1 hC2
    go_wp2_with fail
    go_loopw [3, 14] (fun _ s14 wr => ∃ (k : Nat) (a' : PlA), k ≤ n ∧ s14 = .int .i64 k ∧ Hid (PlIs base wr g ((x.all_ 240).shuts ((x.i.free.take k).map (·.1))) a') ∧ Hid (Below base w2 wr) ∧ Hid (Carry (plOwn g a2) (plOwn g a') w2 wr)) (fun _ s14 _ => n - (intOf s14).toNat)
    case atStart => exact ⟨0, a2, Nat.zero_le _, rfl, Lib.hid (by simpa [Pol.shuts] using h2), Lib.hid (Below.refl _ _), Lib.hid (carry_below (Below.refl _ _))⟩
    case round =>
      obtain ⟨k, a', hk, rfl, hp, hb, hc⟩ := hrel
      have hI := (HL.carry hc.out).at_
      by_cases hlt : k < n
      · obtain ⟨b, off, y, rfl, hbb, hx, hc1, hc2⟩ := Res.cells hI hlt
        have hbN := Below.new_ wr (.cells #[.int .i64 y.1, .int .i64 y.2] 67)
        have hbM := Below.new_ (wr.alloc (.cells #[.int .i64 y.1, .int .i64 y.2] 67)) (.cells #[.int .i64 y.1] 3)
        have hbr := Nat.le_trans hp.out.gb (Nat.le_of_lt hp.out.row.lt)
        have hbZ := hbN.trans (hbM.mono (by simp))
        have hlen : ((x.all_ 240).shuts ((x.i.free.take k).map (·.1))).p.shut.length + 1 ≤ 1000 := by
          show (x.p.shut ++ (x.i.free.take k).map (·.1)).length + 1 ≤ 1000
          rw [List.length_append, List.length_map, List.length_take]
          omega
        have hs := shuts_any base g _ a' (some ⟨wr.heap.size + 1, 0, none⟩) 1 1 (wr.heap.size + 1 + 1) [y.1] _ (hp.out.below hbZ) (Ints.at1_ (wr.alloc (.cells #[.int .i64 y.1, .int .i64 y.2] 67)) (wr.heap.size + 1) y.1 3 (by simp)) hlen
        clear hlen hI HL
        go_wp2_with fail
        refine hs.mono ?_
        rintro en w4 ⟨a4, rfl, h4, hb4, hC4⟩
        have e1 : ((x.all_ 240).shuts ((x.i.free.take k).map (·.1))).shuts [y.1] = (x.all_ 240).shuts ((x.i.free.take (k + 1)).map (·.1)) := by
          unfold Pol.shuts
          rw [take_succ_of hx.out]
          simp
        rw [e1] at h4
        have hbb4 := (hb.out.trans (hbZ.mono hbr)).trans hb4
        have hcc4 := (hc.out.trans (carry_below hbZ)).trans hC4
        clear e1 hs hbN hbM hbZ hb4 hC4
        go_wp2_with fail
        go_roundw
        case rel => exact ⟨k + 1, a4, by omega, by go_num, Lib.hid h4, Lib.hid hbb4, Lib.hid hcc4⟩
        case measure => simp [intOf]; omega
      · obtain rfl : k = n := by omega
        have ht : x.i.free.take k = x.i.free := List.take_of_length_le (by have := hnl.out; omega)
        rw [ht] at hp
        have h3 := hp.out
        have c10 : wr.cell? ⟨g, 10, none⟩ = some (.slice a'.oA x.i.out.length a'.oc) := h3.row.cell rfl
        have hs := shuts_any base g _ a' a'.oA x.i.out.length a'.oc wr.heap.size x.i.out wr h3 h3.lists.at_.2.1 (by
          show (x.p.shut ++ x.i.free.map (·.1)).length + x.i.out.length ≤ 1000
          rw [List.length_append, List.length_map, hnl.out]
          omega)
        clear ht hI HL
        go_wp2_with fail
        refine hs.mono ?_
        rintro en w4 ⟨a4, rfl, h4, hb4, hC4⟩
        have f9 := h4.row.free 9
        have d9 := h4.row.cell (i := 9) rfl
        obtain ⟨h5, hb5, hC5⟩ := h4.freeNil
        have f10 := h5.row.free 10
        have d10 := h5.row.cell (i := 10) rfl
        obtain ⟨h6, hb6, hC6⟩ := h5.outNil
        have f14 := h6.row.free 14
        have d14 := h6.row.cell (i := 14) rfl
        obtain ⟨h7, hb7, hC7⟩ := h6.setClosed true
        have d19 : (((w4.setCell ⟨g, 9, none⟩ (.slice none 0 0)).setCell ⟨g, 10, none⟩ (.slice none 0 0)).setCell ⟨g, 14, none⟩ (.bool true)).cell? ⟨g, 19, none⟩ = some (.int .i64 x.p.caller) := h7.row.cell rfl
        have hz := says_any base g _ _ x.p.caller (-1) 0 _ h7 (by
          show (x.p.rep ++ x.i.line.map fun c => ((c, -1, 240) : Rpl)).length ≤ 900
          rw [List.length_append, List.length_map]
          omega)
        have hbb7 := Lib.hid ((((((hbw2.out.trans hb.out).trans hb4).trans hb5).trans hb6).trans hb7))
        have hCC7 := Lib.hid ((((((hCw2.out.trans hc.out).trans hC4).trans hC5).trans hC6).trans hC7))
        clear c10 hs hb4 hb5 hb6 hb7 hC4 hC5 hC6 hC7 h3 h4 h5 h6 h7
        go_wp2_with fail
        refine hz.mono ?_
        rintro en w8 ⟨a8, rfl, h8, hb8, hC8⟩
        go_wp2_with fail
        go_end0
        rw [HY.out]
        exact ⟨a8, rfl, h8, hbb7.out.trans hb8, hCC7.out.trans hC8⟩
  · rw [if_pos rfl] at h1
    have hy : x.closes = x.says x.p.caller (-1) 240 := by
      unfold Pol.closes
      rw [if_pos hcl.out]
    have HY := Lib.hid hy
    clear hR hy
    go_wp2_with fail
    go_end0
    rw [HY.out]
    exact ⟨a1, rfl, h1, hb1, hC1⟩
end Go.Proofs.Ythjanhfjehccoaa
