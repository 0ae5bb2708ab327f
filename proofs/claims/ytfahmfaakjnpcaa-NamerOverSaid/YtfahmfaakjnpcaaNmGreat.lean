/-
  What the document's Great of chapter 18 computes, and what it says of a namer that is not too great. Conditions: none.
-/
import Derived.Test.YtfahmfaakjnpcaaNmSame
namespace Go.Proofs.Ytfahmfaakjnpcaa
set_option linter.unusedVariables false
set_option linter.unusedSimpArgs false
open Go.RowKit Go.Shelf

def okAsk (p : Fx) : Prop := p.1.n ≤ 60 ∧ ∀ x ∈ p.2, x ≤ 1099511627776
def GreatPost (h : NmH) (fs : List Fx) (w : World) (e : Ending) (w' : World) : Prop := ∃ b, e = .returned (.bool b) ∧ (b = false → h.fn ≤ 40 ∧ (∀ p ∈ fs, okAsk p) ∧ h.kn ≤ 60 ∧ h.id ≤ 1099511627776) ∧ Below w.heap.size w w'
theorem GreatPost.yes {h : NmH} {fs : List Fx} {w w' : World} (hb : Below w.heap.size w w') : GreatPost h fs w (.returned (.bool true)) w' := ⟨true, rfl, by simp, hb⟩
set_option maxRecDepth 100000 in
set_option maxHeartbeats 4000000 in
theorem Great18_any (h : NmH) (l : List Kn) (fs : List Fx) (w : World) (hN : NmIs w w.heap.size h l fs) (hfn : h.fn ≤ 9223372036854775807) (hkn : h.kn ≤ 9223372036854775807) (hpn : ∀ p ∈ fs, p.1.n ≤ 9223372036854775807) :
    Calls Try.prog 15 #[.agg #[.int .i64 h.id, .int .i64 h.cf.1, .int .i64 h.cf.2.1, .int .i64 h.cf.2.2.1, .int .i64 h.cf.2.2.2.1, .int .i64 h.cf.2.2.2.2.1, .int .i64 h.cf.2.2.2.2.2.1, .int .i64 h.cf.2.2.2.2.2.2.1, .int .i64 h.cf.2.2.2.2.2.2.2.1, .int .i64 h.cf.2.2.2.2.2.2.2.2, .slice h.kA h.kn h.kc, .slice h.fA h.fn h.fc, .bool h.over]] w fun e w' => GreatPost h fs w e w' := by
  have HLEN := Lib.hid hN.f.len
  have hb0 := Below.new_ w (.cells #[.int .i64 h.id, .int .i64 h.cf.1, .int .i64 h.cf.2.1, .int .i64 h.cf.2.2.1, .int .i64 h.cf.2.2.2.1, .int .i64 h.cf.2.2.2.2.1, .int .i64 h.cf.2.2.2.2.2.1, .int .i64 h.cf.2.2.2.2.2.2.1, .int .i64 h.cf.2.2.2.2.2.2.2.1, .int .i64 h.cf.2.2.2.2.2.2.2.2, .slice h.kA h.kn h.kc, .slice h.fA h.fn h.fc, .bool h.over] 29)
  have hR := heap_alloc_new w (.cells #[.int .i64 h.id, .int .i64 h.cf.1, .int .i64 h.cf.2.1, .int .i64 h.cf.2.2.1, .int .i64 h.cf.2.2.2.1, .int .i64 h.cf.2.2.2.2.1, .int .i64 h.cf.2.2.2.2.2.1, .int .i64 h.cf.2.2.2.2.2.2.1, .int .i64 h.cf.2.2.2.2.2.2.2.1, .int .i64 h.cf.2.2.2.2.2.2.2.2, .slice h.kA h.kn h.kc, .slice h.fA h.fn h.fc, .bool h.over] 29)
  have hR : NmRow (w.alloc (.cells #[.int .i64 h.id, .int .i64 h.cf.1, .int .i64 h.cf.2.1, .int .i64 h.cf.2.2.1, .int .i64 h.cf.2.2.2.1, .int .i64 h.cf.2.2.2.2.1, .int .i64 h.cf.2.2.2.2.2.1, .int .i64 h.cf.2.2.2.2.2.2.1, .int .i64 h.cf.2.2.2.2.2.2.2.1, .int .i64 h.cf.2.2.2.2.2.2.2.2, .slice h.kA h.kn h.kc, .slice h.fA h.fn h.fc, .bool h.over] 29)) w.heap.size h := hR
  go_enter Try.func15, Try.ntmps15
  go_wp2_with fail
  generalize (w.alloc (.cells #[.int .i64 h.id, .int .i64 h.cf.1, .int .i64 h.cf.2.1, .int .i64 h.cf.2.2.1, .int .i64 h.cf.2.2.2.1, .int .i64 h.cf.2.2.2.2.1, .int .i64 h.cf.2.2.2.2.2.1, .int .i64 h.cf.2.2.2.2.2.2.1, .int .i64 h.cf.2.2.2.2.2.2.2.1, .int .i64 h.cf.2.2.2.2.2.2.2.2, .slice h.kA h.kn h.kc, .slice h.fA h.fn h.fc, .bool h.over] 29)) = W at hb0 hR ⊢
  go_loopw [3] (fun s3 wr => ∃ k : Nat, k ≤ h.fn ∧ s3 = .int .i64 k ∧ Hid (∀ p ∈ fs.take k, okAsk p) ∧ W = wr) (fun s3 _ => h.fn - (intOf s3).toNat)
  case atStart => exact ⟨0, Nat.zero_le _, rfl, by intro p hp; simp at hp, rfl⟩
  case round =>
    obtain ⟨k, hk, rfl, hall, rfl⟩ := hrel
    obtain ⟨a0, a1, a2, a3, a4, a5, a6, a7, a8, a9, a10, a11, a12⟩ := hR.cells
    clear a1 a2 a3 a4 a5 a6 a7 a8 a9 a12
    have hl2 := (hN.k.below' hb0 (Nat.le_refl _)).more hb0.size
    by_cases hlt : k < h.fn
    · by_cases h40 : k ≤ 40
      · obtain ⟨b, off, x, hA, hbb, hx, c0, c1, c2⟩ := Fls.cells (hN.f.1.below hb0) hlt
        obtain ⟨L, hL⟩ := fx_get hx.out
        have hpm := hN.f.2 _ (List.mem_of_getElem? hL)
        have hI := hpm.1.below hb0
        have hpx := hpn _ (List.mem_of_getElem? hL)
        simp only at hI hpx
        have HL := Lib.hid hL
        have i0 : (0 : Int) ≤ (k : Int) := by omega
        have i1 : (k : Int) < (h.fn : Int) := by omega
        rw [hA] at a11
        clear hL hx hpm hA
        cases d1 : decide ((60 : Int) < (x.n : Int))
        case true =>
          go_wp2_with fail
          go_ret
          exact GreatPost.yes hb0
        case false =>
          cases d2 : decide ((400 : Int) < (x.name.size : Int))
          case true =>
            go_wp2_with fail
            go_ret
            exact GreatPost.yes hb0
          case false =>
            have hn60 : Hid (x.n ≤ 60) := by
              show _ ≤ _
              simp only [decide_eq_false_iff_not] at d1
              omega
            go_wp2_with fail
            go_loopw [4] (fun s4 wr => ∃ j : Nat, j ≤ x.n ∧ s4 = .int .i64 j ∧ Hid (∀ y ∈ L.take j, y ≤ 1099511627776) ∧ W = wr) (fun s4 _ => x.n - (intOf s4).toNat)
            case atStart => exact ⟨0, Nat.zero_le _, rfl, by intro p hp; simp at hp, rfl⟩
            case round =>
              obtain ⟨j, hj, rfl, hall2, rfl⟩ := hrel
              by_cases hjl : j < x.n
              · obtain ⟨b2, off2, y, hA2, hbb2, hy, e0⟩ := Ints.at_ hI hjl
                rw [hA2] at c2
                have j0 : (0 : Int) ≤ (j : Int) := by omega
                have j1 : (j : Int) < (x.n : Int) := by omega
                clear hA2
                cases d3 : decide ((1099511627776 : Int) < y)
                case true =>
                  go_wp2_with fail
                  go_ret
                  exact GreatPost.yes hb0
                case false =>
                  have hno : Hid (∀ z ∈ L.take (j + 1), z ≤ 1099511627776) := by
                    intro z hz
                    rw [take_succ_of hy.out] at hz
                    rcases List.mem_append.1 hz with hz | hz
                    · exact hall2.out z hz
                    · simp at hz d3; omega
                  go_wp2_with fail
                  go_roundw
                  case rel => exact ⟨j + 1, by omega, by go_num, hno, (by first | rfl | trivial)⟩
                  case measure => simp [intOf]; omega
              · have hno : Hid (∀ p ∈ fs.take (k + 1), okAsk p) := by
                  intro p hp
                  rw [take_succ_of HL.out] at hp
                  rcases List.mem_append.1 hp with hp | hp
                  · exact hall.out p hp
                  · obtain rfl := List.mem_singleton.1 hp
                    refine ⟨hn60.out, fun z hz => hall2.out z ?_⟩
                    rw [List.take_of_length_le (by have := hI.len; omega)]
                    exact hz
                go_wp2_with fail
                go_roundw
                case rel => exact ⟨k + 1, by omega, by go_num, hno, (by first | rfl | trivial)⟩
                case measure => simp [intOf]; omega
      · have hbig : decide ((40 : Int) < (h.fn : Int)) = true := by simp; omega
        have hk40 : decide ((k : Int) ≤ 40) = false := by simp; omega
        go_wp2_with fail
        go_ret
        exact GreatPost.yes hb0
    · obtain rfl : k = h.fn := by omega
      have ht : fs.take h.fn = fs := List.take_of_length_le (by rw [HLEN.out]; exact Nat.le_refl _)
      have HT := Lib.hid ht
      clear ht hlt
      cases d1 : decide ((40 : Int) < (h.fn : Int))
      case true =>
        go_wp2_with fail
        go_ret
        exact GreatPost.yes hb0
      case false =>
        have hf40 : Hid (h.fn ≤ 40) := by
          show _ ≤ _
          simp only [decide_eq_false_iff_not] at d1
          omega
        go_wp2_with fail
        refine (Great11_any _ _ _ l _ hl2 hkn).mono ?_
        rintro e w2 ⟨g, rfl, hg, hb2⟩
        have hR2 : NmRow w2 w.heap.size h := (hb2.block _ hR.lt).trans hR
        obtain ⟨x0, x1, x2, x3, x4, x5, x6, x7, x8, x9, x10, x11, x12⟩ := hR2.cells
        have hfin := hb0.trans (hb2.mono hb0.size)
        cases g
        case true =>
          clear hg
          go_wp2_with fail
          go_ret
          exact GreatPost.yes hfin
        case false =>
          have HG := Lib.hid (hg rfl)
          clear hg
          cases d4 : decide ((1099511627776 : Int) < h.id)
          case true =>
            go_wp2_with fail
            go_ret
            exact GreatPost.yes hfin
          case false =>
            have hid : Hid (h.id ≤ 1099511627776) := by
              show _ ≤ _
              simp only [decide_eq_false_iff_not] at d4
              omega
            go_wp2_with fail
            go_ret
            exact ⟨false, rfl, fun _ => ⟨hf40.out, by have := hall.out; rw [HT.out] at this; exact this, HG.out, hid.out⟩, hfin⟩
end Go.Proofs.Ytfahmfaakjnpcaa
