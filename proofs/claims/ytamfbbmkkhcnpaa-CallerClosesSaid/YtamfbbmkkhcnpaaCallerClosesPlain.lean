/-
  What CallerCloses tells: the walk. Conditions: none.
-/
import Derived.Test.YtamfbbmkkhcnpaaCallWakes
namespace Go.Proofs.Ytamfbbmkkhcnpaa
open Go.RowKit

theorem quiet_add_left {P : Program} {f : FuncId} {args : Array Value} {w : World} {a n : Nat} {v : Value}
    (h : Calls P f args (w.drewN (a + n)) fun e w' => e = .returned v ∧ w.drewN (a + n) = w') :
    Calls P f args (w.drewN (a + n)) fun e w'' => e = .returned v ∧ ∃ m, w'' = w.drewN (a + m) :=
  h.mono fun _ _ ⟨he, hm⟩ => ⟨he, n, hm.symm⟩
theorem des_ne2 {w : World} {B g : Nat} {D : Option Addr} {dn : Nat} {l : List Int} {x : Ca} (h : Des w B D dn l) (hg : Cb w g x) : ∀ b off, D = some ⟨b, off, none⟩ → 0 < dn → b ≠ g := by
  rintro b off rfl h0 rfl
  obtain ⟨b', off', e1, _, hc⟩ := h.2.2 h0 (by omega)
  injection e1 with e1
  injection e1 with e1 e2
  subst e1 e2
  have hl : 0 < l.length := by rw [h.1]; exact h0
  obtain ⟨d, l', rfl⟩ : ∃ d l', l = d :: l' := by cases l with | nil => simp at hl | cons d l' => exact ⟨d, l', rfl⟩
  have h1 := hc 0 (.int .i8 1) rfl
  have h2 := hc 2 (.int .i8 0) rfl
  rw [cell_of_row w b (off + 0) _ _ (0, 0) hg] at h1
  rw [cell_of_row w b (off + 2) _ _ (0, 0) hg] at h2
  match off, h1, h2 with
  | 0, h, _ => simp at h
  | 1, h, _ => simp at h
  | 2, _, h => simp at h
  | 3, h, _ => simp at h
  | 4, h, _ => simp at h
  | 5, h, _ => simp at h
  | 6, _, h => simp at h
  | 7, h, _ => simp at h
  | 8, h, _ => simp at h
  | 9, h, _ => simp at h
  | 10, h, _ => simp at h
  | (k + 11), h, _ => simp at h
theorem des_put2 {w : World} {g : Nat} {D : Option Addr} {dn : Nat} {l : List Int} {x y : Ca} (h : Des w w.heap.size D dn l) (hg : Cb w g x) : Des (caPut w g y) (caPut w g y).heap.size D dn l := by
  rw [caPut_size]
  exact des_put h hg (des_ne2 h hg)
theorem Des.cells {w : World} {B : Nat} {A : Option Addr} {n : Nat} {xs : List Int} (h : Des w B A n xs) {i : Nat} (hi : i < n) :
    ∃ b off x, A = some ⟨b, off, none⟩ ∧ b < B ∧ Hid (xs[i]? = some x) ∧ w.cell? ⟨b, off + i * 19, none⟩ = some (.int .i8 1) ∧ w.cell? ⟨b, off + i * 19 + 1, none⟩ = some (.int .i64 x) := by
  obtain ⟨b, off, x, e, hb, hx, hc⟩ := Recs.at_ encDe_len (by omega) h hi
  exact ⟨b, off, x, e, hb, hx, hc 0 _ rfl, (by have := hc 1 _ rfl; rwa [← Nat.add_assoc] at this)⟩
theorem eqLt (k k' f f' n n' s s' e e' : Int) (w : World) : (Op.equalIn 10000 38 (.agg #[.int .i8 k, .int .i64 f, .int .i64 n, .int .i64 s, .string ⟨#[]⟩, .int .i64 e]) (.agg #[.int .i8 k', .int .i64 f', .int .i64 n', .int .i64 s', .string ⟨#[]⟩, .int .i64 e'])).run Try.prog w = .ok (decide (k = k' ∧ f = f' ∧ n = n' ∧ s = s' ∧ e = e')) w := by
  have u2 := Try.underlying24
  have u3 := Try.underlying3
  have u4 := Try.underlying26
  have u5 := Try.underlying9
  have hS : Try.prog.underlying 38 = some (.struct (Try.prog.fieldsOf 38)) := by kernel_rfl
  have hp : Try.prog.stoodInHeld 38 = false := by kernel_rfl
  rw [show (10000 : Nat) = 9999 + 1 from rfl, run_equalIn_agg w 9999 38 _ _ hS hp]
  simp only [Program.fieldsOf, Try.underlying38]
  go_simp
  by_cases h1 : k = k' <;> by_cases h2 : f = f' <;> by_cases h3 : n = n' <;> by_cases h4 : s = s' <;> by_cases h5 : e = e' <;> simp [h1, h2, h3, h4, h5]
/-- The caller of a Close at its owner k. -/
def ck (id : Int) (A : Option Addr) (n c : Nat) (st : Int) (k : Nat) (re : Int) : Ca := ⟨id, 1, 4, 0, 0, A, n, c, st, k, id, -1, re⟩
theorem closeC_ck (id : Int) (A : Option Addr) (n c : Nat) : closeC id 1 A n c = ck id A n c (if n = 0 then 4 else 0) 0 0 := rfl
theorem ck_cases (id : Int) (A : Option Addr) (n c k : Nat) (re : Int) (L : List Int) (o : Int) (h : k < n) (ho : L[k]? = some o) (h0 : 0 ≤ o) (h1 : o ≤ 1000) : casesL (ck id A n c 0 k re) L = [(0, o * 5 + 0, 4, id, 0, 0), (1, 1, 0, 0, 0, 0)] := by
  have e1 : inboxD (ck id A n c 0 k re) L = o * 5 + 0 := by
    unfold inboxD
    rw [if_neg (by simp [ck]), if_pos (by simp [ck]; omega)]
    have : L.getD (ck id A n c 0 k re).i.toNat 0 = o := by simp [ck, List.getD_eq_getElem?_getD, ho]
    rw [this]
    exact ofD_of h0 (by omega) (by omega) (by omega)
  unfold casesL
  rw [e1]
  simp [ck, wishK, tokL]
theorem ck_take0 (id : Int) (A : Option Addr) (n c k : Nat) (L : List Int) : takeM (ck id A n c 0 k 0) L 0 0 0 = (ck id A n c 1 k 0, false) := by
  unfold takeM
  rw [if_pos ⟨by omega, by unfold casesL; simp [ck]; omega⟩]
  simp [goesM, ck]
theorem ck_take1 (id : Int) (A : Option Addr) (n c k : Nat) (L : List Int) (h : k + 1 < n) : takeM (ck id A n c 1 k 0) L 0 (-1) 0 = (ck id A n c 0 (k + 1) 0, false) := by
  unfold takeM
  rw [if_pos ⟨by omega, by unfold casesL; simp [ck]⟩]
  have h2 : (k : Int) + 1 < n := by omega
  simp [goesM, toldM, ck, h2]
theorem ck_take2 (id : Int) (A : Option Addr) (n c k : Nat) (L : List Int) (h : k + 1 = n) : takeM (ck id A n c 1 k 0) L 0 (-1) 0 = (ck id A n c 4 n 0, true) := by
  unfold takeM
  rw [if_pos ⟨by omega, by unfold casesL; simp [ck]⟩]
  have h2 : ¬ (k : Int) + 1 < n := by omega
  simp [goesM, toldM, ck, h2, endC]
  omega
theorem ck_take3 (id : Int) (A : Option Addr) (n c k : Nat) (L : List Int) : takeM (ck id A n c 1 k 0) L 0 (-1) 240 = (ck id A n c 4 k 240, false) := by
  unfold takeM
  rw [if_pos ⟨by omega, by unfold casesL; simp [ck]⟩]
  simp [goesM, toldM, ck, endC]
def ClRel (id : Int) (w : World) (g : Nat) (A : Option Addr) (n c : Nat) (L : List Int) (s8 s9 : Value) (wr : World) : Prop :=
  ∃ (k : Nat) (y : Ca) (D : Option Addr) (dn dc : Nat), k ≤ n ∧ s9 = .int .i64 k ∧ s8 = .slice D dn dc ∧ Hid (y = ck id A n c (if k = n then 4 else 0) k 0) ∧ Cb wr g y ∧ Ints wr g A n L ∧ Des wr wr.heap.size D dn (if k = n then [1] else []) ∧ Below w.heap.size w wr
end Go.Proofs.Ytamfbbmkkhcnpaa
