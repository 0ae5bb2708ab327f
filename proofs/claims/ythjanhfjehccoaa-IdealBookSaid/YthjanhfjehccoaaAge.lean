/-
  What the functions of package 'age' (layer 3) compute, each as one contract over the translated program: for every argument, in every memory. Conditions: a slice argument reads as a list of ints.
-/
import Derived.Test.YthjanhfjehccoaaRows
import Derived.Test.YthjanhfjehccoaaBase
namespace Go.Proofs.Ythjanhfjehccoaa
set_option linter.unusedVariables false
set_option linter.unusedSimpArgs false
open Go.RowKit

def clamp (t : Int) : Int := min (max t 0) 1073741824
theorem clamp_bd (t : Int) : 0 ≤ clamp t ∧ clamp t ≤ 1073741824 := by unfold clamp; omega
theorem clamp_of {t : Int} (h0 : 0 ≤ t) (h1 : t ≤ 1073741824) : clamp t = t := by unfold clamp; omega
def later (t : Int) (l : List Int) : Int := l.foldl (fun now x => clamp (now + clamp x)) (clamp t)
theorem later_snoc (t : Int) (l : List Int) (x : Int) : later t (l ++ [x]) = clamp (later t l + clamp x) := by simp [later]
theorem later_bd (t : Int) (l : List Int) : 0 ≤ later t l ∧ later t l ≤ 1073741824 := by
  unfold later
  have : ∀ a : Int, 0 ≤ a ∧ a ≤ 1073741824 → 0 ≤ l.foldl (fun now x => clamp (now + clamp x)) a ∧ l.foldl (fun now x => clamp (now + clamp x)) a ≤ 1073741824 := by
    induction l with
    | nil => exact fun a h => h
    | cons y l ih => exact fun a _ => ih _ (clamp_bd _)
  exact this _ (clamp_bd t)
theorem later_top (a : List Int) (t : Int) (b : List Int) (h : later t a = 1073741824) : later t (a ++ b) = 1073741824 := by
  unfold later at h ⊢
  rw [List.foldl_append, h]
  clear h
  induction b with
  | nil => rfl
  | cons y l ih =>
    have e : clamp (1073741824 + clamp y) = 1073741824 := by have := clamp_bd y; unfold clamp at *; omega
    simp only [List.foldl_cons, e]
    exact ih
def gone (since now : Int) : Int := max (clamp now - clamp since) 0
def oldB (since age now : Int) : Bool := decide (clamp (clamp since + clamp age) ≤ clamp now)
def firstStep (s : Int × Int) (i : Nat) (x : Int) : Int × Int := if s.1 < 0 ∨ clamp x < s.2 then ((i : Int), clamp x) else s
def firstRun (l : List Int) : (Int × Int) × Nat := l.foldl (fun s x => (firstStep s.1 s.2 x, s.2 + 1)) ((-1, 0), 0)
/-- The place and the tick of the first: -1 and 0 of none. -/
def firstOf (l : List Int) : Int × Int := (firstRun l).1
theorem firstRun_len (l : List Int) : (firstRun l).2 = l.length := by
  unfold firstRun
  have : ∀ (l : List Int) (s : (Int × Int) × Nat), (l.foldl (fun s x => (firstStep s.1 s.2 x, s.2 + 1)) s).2 = s.2 + l.length := by
    intro l
    induction l with
    | nil => intro s; rfl
    | cons y l ih => intro s; rw [List.foldl_cons, ih]; simp; omega
  simpa using this l ((-1, 0), 0)
theorem firstOf_snoc (l : List Int) (x : Int) : firstOf (l ++ [x]) = firstStep (firstOf l) l.length x := by
  have h := firstRun_len l
  unfold firstOf
  rw [← h]
  simp [firstRun]
theorem firstOf_take {l : List Int} {k : Nat} {x : Int} (hk : k < l.length) (h : l[k]? = some x) : firstOf (l.take (k + 1)) = firstStep (firstOf (l.take k)) k x := by
  rw [take_succ_of h, firstOf_snoc, List.length_take, Nat.min_eq_left (by omega)]

theorem of_any (t : Int) (w : World) : Calls Try.prog 80 #[.int .i64 t] w fun e w' => e = .returned (.int .i64 (clamp t)) ∧ w = w' := by
  rcases (by omega : t < 0 ∨ (0 ≤ t ∧ t ≤ 1073741824) ∨ 1073741824 < t) with h | ⟨h, h1⟩ | h
  · go_enter Try.func80, Try.ntmps80
    go_wp2
    go_ret
    exact ⟨ret_int (by unfold clamp; omega), rfl⟩
  · go_enter Try.func80, Try.ntmps80
    go_wp2
    go_ret
    exact ⟨ret_int (by unfold clamp; omega), rfl⟩
  · have h0 : ¬ t < 0 := by omega
    go_enter Try.func80, Try.ntmps80
    go_wp2
    go_ret
    exact ⟨ret_int (by unfold clamp; omega), rfl⟩

theorem plus_any (t n : Int) (w : World) (h0 : 0 ≤ t) (h1 : t ≤ 1073741824) (h2 : 0 ≤ n) (h3 : n ≤ 1073741824) :
    Calls Try.prog 81 #[.int .i64 t, .int .i64 n] w fun e w' => e = .returned (.int .i64 (clamp (t + n))) ∧ w = w' := by
  go_enter Try.func81, Try.ntmps81
  go_wp2_with (go_at_call 80; refine (of_any _ _).mono ?_; rintro e w' ⟨rfl, rfl⟩)
  go_ret
  exact ⟨rfl, rfl⟩



theorem Old_any (since age now : Int) (w : World) : Calls Try.prog 77 #[.int .i64 since, .int .i64 age, .int .i64 now] w fun e w' => e = .returned (.bool (oldB since age now)) ∧ w = w' := by
  have b1 := clamp_bd since
  have b2 := clamp_bd age
  go_enter Try.func77, Try.ntmps77
  go_wp2_with (first | (go_at_call 80; refine (of_any _ _).mono ?_; rintro e w' ⟨rfl, rfl⟩) | (go_at_call 81; refine (plus_any _ _ _ (by omega) (by omega) (by omega) (by omega)).mono ?_; rintro e w' ⟨rfl, rfl⟩))
  go_ret
  exact ⟨rfl, rfl⟩


end Go.Proofs.Ythjanhfjehccoaa
