/-
  What Note of switchboardref12 computes of no addresses: some row. Conditions: at most 1000 scars.
-/
import Derived.Test.YthjanhfjehccoaaScar
import Derived.Test.YthjanhfjehccoaaIdealBookPart2
namespace Go.Proofs.Ythjanhfjehccoaa
set_option linter.unusedVariables false
set_option linter.unusedSimpArgs false
open Go.RowKit

def NtPost (w : World) (e : Ending) (w' : World) : Prop := (∃ A n c, e = .returned (.slice A n c)) ∧ Below w.heap.size w w'
set_option maxRecDepth 100000 in
set_option maxHeartbeats 8000000 in
theorem note0_any (A : Option Addr) (n c B : Nat) (l : List Sc) (now : Int) (w : World) (hl : Scs w B A n l) (hB : B ≤ w.heap.size) (hn : n ≤ 1000) :
    Calls Try.prog 35 #[.slice A n c, .int .i64 now, .slice none 0 0] w fun e w' => NtPost w e w' := by
  go_enter Try.func35, Try.ntmps35
  go_upto_region 3 with (at_builtin; refine wpList_appSc _ rfl (.tmp 9) (.tmp 10) rfl w.heap.size none 0 0 [] rfl (OwR.nil_ _ _ _ _) B A n c l rfl hl (by omega) (Nat.le_refl _) ?_; intro A1 c1 w1 ho hg hr; rw [Nat.zero_add] at ho ⊢)
  have hb1 : Below w.heap.size w w1 := (Below.refl _ _).grown hg (Nat.le_refl _) (fun g hg2 => by simp [rowOf] at hg2)
  go_wp2_with fail
  go_loopw [7, 8] (fun s7 s8 wr => s7 = .slice A1 n c1 ∧ s8 = .int .i64 0 ∧ w1 = wr) (fun _ _ _ => 0)
  case atStart => exact ⟨rfl, rfl, rfl⟩
  case round =>
    obtain ⟨rfl, rfl, rfl⟩ := hrel
    by_cases h32 : 32 < n
    · have d1 : decide ((32 : Int) < (n : Int)) = true := decide_eq_true (by omega)
      have d2 : decide (32 < n) = true := decide_eq_true h32
      have w2 : IntKind.i64.wrap ((n : Int) - 32) = (n : Int) - 32 := IntWalk.i64_in _ (by omega)
      have i1 : (0 : Int) ≤ (n : Int) - 32 := by omega
      have i2 : (n : Int) - 32 ≤ (n : Int) := by omega
      have i3 : ((n : Int) - 32).toNat = n - 32 := by omega
      obtain ⟨hlen, hnc, hmx, hrow⟩ := ho.2
      rcases hrow with h0 | ⟨g, cur, rfl, _⟩
      · omega
      · by_cases hc : c1 = n - 32
        · omega
        · clear h32 hlen hmx
          go_wp2_with fail
          go_ret
          exact ⟨⟨_, _, _, rfl⟩, hb1⟩
    · have d1 : decide ((32 : Int) < (n : Int)) = false := decide_eq_false (by omega)
      have d2 : decide (32 < n) = false := decide_eq_false h32
      clear h32
      go_wp2_with fail
      go_ret
      exact ⟨⟨_, _, _, rfl⟩, hb1⟩
end Go.Proofs.Ythjanhfjehccoaa
