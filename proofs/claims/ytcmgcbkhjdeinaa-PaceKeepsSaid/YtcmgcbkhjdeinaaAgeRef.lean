/-
  What the functions of the document's answer to layer 3 compute: the same functions as those of package 'age'. Conditions: a slice argument reads as a list of ints.
-/
import Derived.Test.YtcmgcbkhjdeinaaAge
namespace Go.Proofs.Ytcmgcbkhjdeinaa
open Go.RowKit

theorem rClamp_any (t : Int) (w : World) : Calls Try.prog 14 #[.int .i64 t] w fun e w' => e = .returned (.int .i64 (clamp t)) ∧ w = w' := by
  rcases (by omega : t < 0 ∨ (0 ≤ t ∧ t ≤ 1073741824) ∨ 1073741824 < t) with h | ⟨h, h1⟩ | h
  · go_enter Try.func14, Try.ntmps14
    go_wp2
    go_ret
    exact ⟨ret_int (by unfold clamp; omega), rfl⟩
  · go_enter Try.func14, Try.ntmps14
    go_wp2
    go_ret
    exact ⟨ret_int (by unfold clamp; omega), rfl⟩
  · have h0 : ¬ t < 0 := by omega
    go_enter Try.func14, Try.ntmps14
    go_wp2
    go_ret
    exact ⟨ret_int (by unfold clamp; omega), rfl⟩



end Go.Proofs.Ytcmgcbkhjdeinaa
