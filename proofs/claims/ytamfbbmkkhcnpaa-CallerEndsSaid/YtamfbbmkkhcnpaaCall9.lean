/-
  The reference's Great of one caller. Conditions: none.
-/
import Derived.Test.YtamfbbmkkhcnpaaCall8
import Derived.Test.YtamfbbmkkhcnpaaSlicesI
namespace Go.Proofs.Ytamfbbmkkhcnpaa
open Go.RowKit

def GreatNo (x : Ca) (L : List Int) : Prop := x.n ≤ 60 ∧ x.id ≤ 1099511627776 ∧ x.owner ≤ 1099511627776 ∧ x.i ≤ 1099511627776 ∧ ∀ y ∈ L, y ≤ 1099511627776
def GreatPost (x : Ca) (L : List Int) (w : World) (e : Ending) (w' : World) : Prop := ∃ g : Bool, e = .returned (.bool g) ∧ (g = false → GreatNo x L) ∧ Below w.heap.size w w'
def GrRel (y : Ca) (L : List Int) (w : World) (s3 : Value) (wr : World) : Prop := s3 = .int .i64 0 ∧ w = wr ∨ s3 = .int .i64 1 ∧ GreatNo y L ∧ ∃ nq, wr = w.drewN nq
theorem max3_le {a b c M C : Int} (hM : (if (if a < b then b else a) < c then c else if a < b then b else a) = M) (h : M ≤ C) : a ≤ C ∧ b ≤ C ∧ c ≤ C := by
  subst hM
  split at h <;> split at h <;> (try split at *) <;> omega
set_option maxRecDepth 100000 in
set_option maxHeartbeats 2000000 in
theorem Great_one (A : Option Addr) (c B : Nat) (x : Ca) (L : List Int) (w : World) (hl : Cas w B A 1 [x]) (hs : Ints w w.heap.size x.A x.n L) (hB : B ≤ w.heap.size) :
    Calls Try.prog 12 #[.slice A 1 c] w fun e w' => GreatPost x L w e w' := by
  obtain ⟨b, off, y, rfl, hbb, hy, k0, k1, k2, k3, k4, k5, k6, k7, k8, k9, k10⟩ := hl.cells (i := 0) (by omega)
  have e1 : y = x := by have := hy.out; simpa using this.symm
  clear hy
  subst e1
  have HL := Lib.hid hs.len
  have hbB : b < w.heap.size := by omega
  simp only [Nat.zero_mul, Nat.add_zero] at k0 k1 k2 k3 k4 k5 k6 k7 k8 k9 k10
  go_enter Try.func12, Try.ntmps12
  go_wp2_with fail
  go_loopw [3] (fun s3 wr => GrRel y L w s3 wr) (fun s3 _ => 1 - (intOf s3).toNat)
  case atStart => exact .inl ⟨rfl, rfl⟩
  case round =>
    rcases hrel with ⟨rfl, rfl⟩ | ⟨rfl, hno, nq, rfl⟩
    · by_cases hn : 60 < y.n
      · have d0 : decide (60 < (y.n : Int)) = true := by simp; omega
        have d1 : decide (60 < y.n) = true := by simp; omega
        go_wp2_with fail
        go_quiet (fail)
        go_wp2_with fail
        go_ret
        exact ⟨true, rfl, (fun h => by simp at h), below_drewN (Below.refl _ _) _⟩
      · have d0 : decide (60 < (y.n : Int)) = false := by simp; omega
        have d1 : decide (60 < y.n) = false := by simp; omega
        have HN := Lib.hid hn
        clear hn
        go_wp2_with fail
        go_quiet (fail)
        generalize hM : (if (if y.id < y.owner then y.owner else y.id) < y.i then y.i else if y.id < y.owner then y.owner else y.id) = M
        have HM := Lib.hid hM
        clear hM
        generalize hbb2 : decide (1099511627776 < M) = bb
        have HBB := Lib.hid hbb2
        clear hbb2
        cases bb
        case true =>
          go_wp2_with fail
          go_ret
          exact ⟨true, rfl, (fun h => by simp at h), below_drewN (Below.refl _ _) _⟩
        case false =>
          have hn6 : y.n ≤ 60 := by have := HN.out; omega
          have HC := Lib.hid (max3_le HM.out (by have := HBB.out; simp at this; omega : M ≤ 1099511627776))
          go_wp2_with fail
          go_loopw [4] (fun s4 wr => ∃ k : Nat, k ≤ y.n ∧ s4 = .int .i64 k ∧ Hid (∀ z ∈ L.take k, z ≤ 1099511627776) ∧ w.drewN nq = wr) (fun s4 _ => y.n - (intOf s4).toNat)
          case atStart => exact ⟨0, Nat.zero_le _, rfl, by show ∀ z ∈ List.take 0 L, _; simp, rfl⟩
          case round =>
            obtain ⟨k, hk, rfl, hno, rfl⟩ := hrel
            by_cases hlt : k < y.n
            · obtain ⟨b2, off2, z, eA, hb2, hz, hc⟩ := hs.at_ hlt
              rw [eA] at k5
              have HT : Hid (L.take (k + 1) = L.take k ++ [z]) := take_succ_of hz.out
              clear eA
              by_cases hgt : 1099511627776 < z
              · have d3 : ¬ z ≤ 1099511627776 := by omega
                go_wp2_with fail
                go_ret
                exact ⟨true, rfl, (fun h => by simp at h), below_drewN (Below.refl _ _) _⟩
              · have d3 : z ≤ 1099511627776 := by omega
                have HG : Hid (z ≤ 1099511627776) := by show _ ≤ _; omega
                go_wp2_with fail
                go_roundw
                case rel => exact ⟨k + 1, by omega, by go_num, by show ∀ z ∈ _, _; rw [HT.out]; intro q hq; rcases List.mem_append.1 hq with h | h; exact hno.out q h; simp at h; subst h; exact HG.out, by first | rfl | trivial⟩
                case measure => simp [intOf]; omega
            · have HA : Hid (∀ z ∈ L, z ≤ 1099511627776) := by
                have := hno.out
                rwa [List.take_of_length_le (by rw [HL.out]; omega)] at this
              go_wp2_with fail
              go_roundw
              case rel => exact .inr ⟨rfl, ⟨by have := HN.out; omega, HC.out.1, HC.out.2.1, HC.out.2.2, HA.out⟩, nq, rfl⟩
              case measure => simp [intOf]
    · have HNO := Lib.hid hno
      clear hno
      go_wp2_with fail
      go_ret
      exact ⟨false, rfl, fun _ => HNO.out, below_drewN (Below.refl _ _) _⟩
end Go.Proofs.Ytamfbbmkkhcnpaa
