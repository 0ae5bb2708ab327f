/-
  The lexical order of a region that draws its order, reckoned on a written-out digest of its operations: for regions of a hundred operations. Conditions: none.
-/
import Derived.Test.YtfahmfaakjnpcaaBase
namespace Go.Proofs.Ytfahmfaakjnpcaa
set_option linter.unusedVariables false
set_option linter.unusedSimpArgs false
open Go.RowKit

/-- Of an operation: where it puts its value, what it looks at, behind which ones it comes. -/
abbrev Dig := Option Nat × List Nat × List Nat
def digOf (ops : Array Oper) (o : Oper) : Dig := (o.dst, o.looksAt ops, (o.after.toList.filter (Region.binds .any)).map (·.on))
def apartD (x y : Dig) : Bool :=
  (match x.1 with
   | some d => !y.2.1.contains d && y.1 != some d
   | none => true) &&
  (match y.1 with
   | some d => !x.2.1.contains d
   | none => true)
def lexD : Nat → List Dig → Bool
  | _, [] => true
  | k, x :: r => x.2.2.all (fun e => Nat.blt e k) && r.all (fun y => y.2.2.contains k || apartD x y) && lexD (k + 1) r

theorem lexD_drop {s : List Dig} : ∀ (r : List Dig) (k : Nat), lexD k r = true → (∀ j, r[j]? = s[k + j]?) → ∀ i x, r[i]? = some x →
    (∀ e ∈ x.2.2, e < k + i) ∧ ∀ j y, i < j → r[j]? = some y → (k + i) ∈ y.2.2 ∨ apartD x y = true
  | [], _, _, _, _, _, h => by simp at h
  | z :: r, k, h, hs, i, x, hx => by
    simp only [lexD, Bool.and_eq_true, List.all_eq_true] at h
    obtain ⟨⟨h1, h2⟩, h3⟩ := h
    cases i with
    | zero =>
      obtain rfl : z = x := by simpa using hx
      refine ⟨fun e he => by have := h1 e he; simpa [Nat.blt_eq] using this, fun j y hj hy => ?_⟩
      obtain ⟨j, rfl⟩ : ∃ m, j = m + 1 := ⟨j - 1, by omega⟩
      have hm : y ∈ r := List.mem_of_getElem? (by simpa using hy)
      simpa using h2 y hm
    | succ i =>
      have := lexD_drop (s := s) r (k + 1) h3 (fun j => by have := hs (j + 1); simpa [Nat.add_assoc, Nat.add_comm 1 j] using this) i x (by simpa using hx)
      refine ⟨fun e he => by have := this.1 e he; omega, fun j y hj hy => ?_⟩
      obtain ⟨j, rfl⟩ : ∃ m, j = m + 1 := ⟨j - 1, by omega⟩
      have := this.2 j y (by omega) (by simpa using hy)
      rwa [show k + 1 + i = k + (i + 1) by omega] at this

theorem lexFrom_of {ops : Array Oper}
    (H : ∀ (i : Nat) (o : Oper), ops[i]? = some o → (∀ e ∈ (digOf ops o).2.2, e < i) ∧ ∀ (j : Nat) (p : Oper), i < j → ops[j]? = some p → i ∈ (digOf ops p).2.2 ∨ apartD (digOf ops o) (digOf ops p) = true) :
    ∀ (fuel k : Nat) (listed : Array Bool), k + fuel = ops.size → listed.size = ops.size → (∀ j, j < ops.size → listed[j]? = some (decide (j < k))) → Region.lexFrom .any ops fuel k listed = true
  | 0, k, listed, hk, hn, hl => by
    unfold Region.lexFrom
    rw [List.isEmpty_iff]
    cases hr : Region.ready .any ops listed with
    | nil => rfl
    | cons j r =>
      have hj : j ∈ Region.ready .any ops listed := by rw [hr]; simp
      obtain ⟨h1, o, ho, _⟩ := mem_ready.1 hj
      have hlt : j < ops.size := (Array.getElem?_eq_some_iff.1 ho).1
      rw [Array.getD_eq_getD_getElem?, hl j hlt] at h1
      have : j < k := by omega
      simp [this] at h1
  | fuel + 1, k, listed, hk, hn, hl => by
    have hlt : k < ops.size := by omega
    have ho : ops[k]? = some ops[k] := Array.getElem?_eq_getElem hlt
    obtain ⟨he, hap⟩ := H k _ ho
    unfold Region.lexFrom
    simp only [Bool.and_eq_true]
    refine ⟨⟨?_, ?_⟩, ?_⟩
    · have : k ∈ Region.ready .any ops listed := by
        refine mem_ready.2 ⟨?_, ops[k], ho, fun e hm hb => ?_⟩
        · rw [Array.getD_eq_getD_getElem?, hl k hlt]; simp
        · have h1 := he e.on (by
            simp only [digOf, List.mem_map, List.mem_filter]
            exact ⟨e, ⟨Array.mem_toList_iff.2 hm, hb⟩, rfl⟩)
          rw [Array.getD_eq_getD_getElem?, hl _ (by omega)]
          simpa using h1
      simpa using this
    · simp only [Region.free, ho, List.all_eq_true, List.mem_range, Bool.or_eq_true, beq_iff_eq]
      intro j hj
      rw [Array.getD_eq_getD_getElem?, hl j hj]
      by_cases hjk : j < k
      · exact .inl (.inr (by simpa using hjk))
      · by_cases hjk' : j = k
        · exact .inl (.inl hjk')
        · have hoj : ops[j]? = some ops[j] := Array.getElem?_eq_getElem hj
          refine .inr ?_
          rw [hoj]
          rcases hap j _ (by omega) hoj with h1 | h1
          · simp only [Bool.or_eq_true]
            refine .inl ?_
            simp only [digOf, List.mem_map, List.mem_filter] at h1
            obtain ⟨e, ⟨hm, hb⟩, rfl⟩ := h1
            rw [Array.any_eq_true']
            exact ⟨e, Array.mem_toList_iff.1 hm, by simp [hb]⟩
          · simp only [Bool.or_eq_true]
            exact .inr h1
    · refine lexFrom_of H fuel (k + 1) _ (by omega) (by simpa using hn) fun j hj => ?_
      rw [Array.getElem?_setIfInBounds]
      by_cases hjk : k = j
      · subst hjk
        rw [if_pos rfl, if_pos (by omega)]
        simp
      · rw [if_neg hjk, hl j hj]
        congr 1
        simp only [decide_eq_decide]
        omega

theorem lexB_of {ops : Array Oper} {s : List Dig} (hn : Region.noSelect ops = true) (hs : ops.toList.map (digOf ops) = s) (h : lexD 0 s = true) : Region.lexB .any ops = true := by
  unfold Region.lexB
  rw [Bool.and_eq_true]
  refine ⟨hn, lexFrom_of (fun i o ho => ?_) ops.size 0 _ (by omega) (by simp) fun j hj => by simp [hj]⟩
  have hi : s[i]? = some (digOf ops o) := by rw [← hs, List.getElem?_map, Array.getElem?_toList, ho]; rfl
  have := lexD_drop (s := s) s 0 h (fun j => by simp) i _ hi
  rw [Nat.zero_add] at this
  refine ⟨this.1, fun j p hj hp => this.2 j _ hj ?_⟩
  rw [← hs, List.getElem?_map, Array.getElem?_toList, hp]; rfl

/-- 'wp_region_quiet_lit' with the digest. -/
theorem wp_region_quiet_dig {P : Program} {id : Nat} {Q : Exit → Act → World → Prop} {a : Act} {w : World} {l : List Oper} (s : List Dig) (hm : P.follows .mixedOrders = true) (hn : Region.noSelect l.toArray = true)
    (hs : l.map (digOf l.toArray) = s) (h : lexD 0 s = true)
    (hq : wpQuiet P l.toArray (fun w' => ∃ n, w' = w.drewN n) (fun a' => ∀ w', (∃ n, w' = w.drewN n) → Q .normal a' w') l a) : (Code.region id l.toArray true).wp P Q a w :=
  wp_region_quiet_lit hm (lexB_of hn hs h) hq
end Go.Proofs.Ytfahmfaakjnpcaa
