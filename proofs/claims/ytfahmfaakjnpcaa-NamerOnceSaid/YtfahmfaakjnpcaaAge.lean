/-
  What the functions of package 'age' (layer 3) compute, each as one contract over the translated program: for every argument, in every memory. Conditions: a slice argument reads as a list of ints.
-/
import Derived.Test.YtfahmfaakjnpcaaRows
import Derived.Test.YtfahmfaakjnpcaaBase
namespace Go.Proofs.Ytfahmfaakjnpcaa
set_option linter.unusedVariables false
set_option linter.unusedSimpArgs false
open Go.RowKit

def clamp (t : Int) : Int := min (max t 0) 1073741824
theorem clamp_bd (t : Int) : 0 ≤ clamp t ∧ clamp t ≤ 1073741824 := by unfold clamp; omega
theorem clamp_of {t : Int} (h0 : 0 ≤ t) (h1 : t ≤ 1073741824) : clamp t = t := by unfold clamp; omega
def later (t : Int) (l : List Int) : Int := l.foldl (fun now x => clamp (now + clamp x)) (clamp t)
theorem later_snoc (t : Int) (l : List Int) (x : Int) : later t (l ++ [x]) = clamp (later t l + clamp x) := by simp [later]
theorem later_bd (t : Int) (l : List Int) : 0 ≤ later t l ∧ later t l ≤ 1073741824 := by
  unfold later
  have : ∀ a : Int, 0 ≤ a ∧ a ≤ 1073741824 → 0 ≤ l.foldl (fun now x => clamp (now + clamp x)) a ∧ l.foldl (fun now x => clamp (now + clamp x)) a ≤ 1073741824 := by
    induction l with
    | nil => exact fun a h => h
    | cons y l ih => exact fun a _ => ih _ (clamp_bd _)
  exact this _ (clamp_bd t)
theorem later_top (a : List Int) (t : Int) (b : List Int) (h : later t a = 1073741824) : later t (a ++ b) = 1073741824 := by
  unfold later at h ⊢
  rw [List.foldl_append, h]
  clear h
  induction b with
  | nil => rfl
  | cons y l ih =>
    have e : clamp (1073741824 + clamp y) = 1073741824 := by have := clamp_bd y; unfold clamp at *; omega
    simp only [List.foldl_cons, e]
    exact ih
def gone (since now : Int) : Int := max (clamp now - clamp since) 0
def oldB (since age now : Int) : Bool := decide (clamp (clamp since + clamp age) ≤ clamp now)
def firstStep (s : Int × Int) (i : Nat) (x : Int) : Int × Int := if s.1 < 0 ∨ clamp x < s.2 then ((i : Int), clamp x) else s
def firstRun (l : List Int) : (Int × Int) × Nat := l.foldl (fun s x => (firstStep s.1 s.2 x, s.2 + 1)) ((-1, 0), 0)
/-- The place and the tick of the first: -1 and 0 of none. -/
def firstOf (l : List Int) : Int × Int := (firstRun l).1
theorem firstRun_len (l : List Int) : (firstRun l).2 = l.length := by
  unfold firstRun
  have : ∀ (l : List Int) (s : (Int × Int) × Nat), (l.foldl (fun s x => (firstStep s.1 s.2 x, s.2 + 1)) s).2 = s.2 + l.length := by
    intro l
    induction l with
    | nil => intro s; rfl
    | cons y l ih => intro s; rw [List.foldl_cons, ih]; simp; omega
  simpa using this l ((-1, 0), 0)
theorem firstOf_snoc (l : List Int) (x : Int) : firstOf (l ++ [x]) = firstStep (firstOf l) l.length x := by
  have h := firstRun_len l
  unfold firstOf
  rw [← h]
  simp [firstRun]
theorem firstOf_take {l : List Int} {k : Nat} {x : Int} (hk : k < l.length) (h : l[k]? = some x) : firstOf (l.take (k + 1)) = firstStep (firstOf (l.take k)) k x := by
  rw [take_succ_of h, firstOf_snoc, List.length_take, Nat.min_eq_left (by omega)]

theorem of_any (t : Int) (w : World) : Calls Try.prog 77 #[.int .i64 t] w fun e w' => e = .returned (.int .i64 (clamp t)) ∧ w = w' := by
  rcases (by omega : t < 0 ∨ (0 ≤ t ∧ t ≤ 1073741824) ∨ 1073741824 < t) with h | ⟨h, h1⟩ | h
  · go_enter Try.func77, Try.ntmps77
    go_wp2
    go_ret
    exact ⟨ret_int (by unfold clamp; omega), rfl⟩
  · go_enter Try.func77, Try.ntmps77
    go_wp2
    go_ret
    exact ⟨ret_int (by unfold clamp; omega), rfl⟩
  · have h0 : ¬ t < 0 := by omega
    go_enter Try.func77, Try.ntmps77
    go_wp2
    go_ret
    exact ⟨ret_int (by unfold clamp; omega), rfl⟩

theorem plus_any (t n : Int) (w : World) (h0 : 0 ≤ t) (h1 : t ≤ 1073741824) (h2 : 0 ≤ n) (h3 : n ≤ 1073741824) :
    Calls Try.prog 78 #[.int .i64 t, .int .i64 n] w fun e w' => e = .returned (.int .i64 (clamp (t + n))) ∧ w = w' := by
  go_enter Try.func78, Try.ntmps78
  go_wp2_with (go_at_call 77; refine (of_any _ _).mono ?_; rintro e w' ⟨rfl, rfl⟩)
  go_ret
  exact ⟨rfl, rfl⟩


theorem Gone_any (since now : Int) (w : World) : Calls Try.prog 74 #[.int .i64 since, .int .i64 now] w fun e w' => e = .returned (.int .i64 (gone since now)) ∧ w = w' := by
  have b1 := clamp_bd since
  have b2 := clamp_bd now
  by_cases h : clamp now - clamp since < 0
  all_goals
    go_enter Try.func74, Try.ntmps74
    go_wp2_with (go_at_call 77; refine (of_any _ _).mono ?_; rintro e w' ⟨rfl, rfl⟩)
    go_ret
    exact ⟨ret_int (by unfold gone; omega), rfl⟩


set_option maxHeartbeats 400000 in
theorem Later_any (t : Int) (A : Option Addr) (n c B : Nat) (l : List Int) (w : World) (hl : Ints w B A n l) (hn : n ≤ 1000) :
    Calls Try.prog 67 #[.int .i64 t, .slice A n c] w fun e w' => e = .returned (.int .i64 (later t l)) ∧ w = w' := by
  have hlen := hl.len
  have HL := Lib.hid hlen
  clear hlen
  go_enter Try.func67, Try.ntmps67
  go_wp2
  go_step3
  go_wp2_with (go_at_call 77; refine (of_any _ _).mono ?_; rintro e w' ⟨rfl, rfl⟩)
  go_step3
  go_wp2
  go_loop [5, 12] (fun s5 s12 => ∃ k : Nat, k ≤ n ∧ s12 = .int .i64 k ∧ s5 = .int .i64 (later t (l.take k))) (fun _ s12 => n - (intOf s12).toNat)
  case atStart => exact ⟨0, Nat.zero_le _, rfl, rfl⟩
  case round =>
    obtain ⟨k, hk, rfl, rfl⟩ := hrel
    have hb := later_bd t (l.take k)
    by_cases hlt : k < n
    · obtain ⟨b, off, x, rfl, hbb, hx, hc⟩ := hl.at_ hlt
      have hb2 := clamp_bd x
      have hs : later t (l.take (k + 1)) = clamp (later t (l.take k) + clamp x) := by rw [take_succ_of hx.out, later_snoc]
      have HS := Lib.hid hs
      clear hs
      by_cases htop : later t (l.take k) = 1073741824
      · have hfin : later t l = 1073741824 := by have := later_top (l.take k) t (l.drop k) htop; rwa [List.take_append_drop] at this
        have HF := Lib.hid hfin
        clear hfin
        have hbt : (later t (l.take k) == 1073741824) = true := by simpa using htop
        have HT := Lib.hid htop
        clear htop
        go_wp2
        go_ret
        exact ⟨ret_int (by rw [HF.out, HT.out]), rfl⟩
      · have hbt : (later t (l.take k) == 1073741824) = false := by simpa using htop
        go_wp2_with (first | (go_at_call 77; refine (of_any _ _).mono ?_; rintro e w' ⟨rfl, rfl⟩) | (go_at_call 78; refine (plus_any _ _ _ (by omega) (by omega) (by omega) (by omega)).mono ?_; rintro e w' ⟨rfl, rfl⟩))
        go_round
        case rel => exact ⟨k + 1, by omega, by go_num, by rw [HS.out]⟩
        case measure => simp [intOf]; omega
    · go_wp2
      go_ret
      exact ⟨ret_int (by rw [List.take_of_length_le (by rw [HL.out]; omega)]), rfl⟩

end Go.Proofs.Ytfahmfaakjnpcaa
