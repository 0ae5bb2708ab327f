/-
  Parts of the proof of the statement NamerTells. Conditions: as each states.
-/
import Derived.Test.YtfahmfaakjnpcaaNamerTellsPart30
import Derived.Test.YtfahmfaakjnpcaaNamerTellsPart1
namespace Go.Proofs.Ytfahmfaakjnpcaa
set_option linter.unusedVariables false
set_option linter.unusedSimpArgs false
open Go.RowKit Go.Shelf

theorem Recs.range {α : Type} {enc : α → List Value} {k : Nat} (hk : ∀ x, (enc x).length = k) (hk0 : 0 < k) {w : World} {B n : Nat} {A : Option Addr} {xs : List α} (h : Recs enc k w B A n xs) {i : Nat} (hi : i < n) :
    ∃ b off x, A = some ⟨b, off, none⟩ ∧ b < B ∧ Hid (xs[i]? = some x) ∧ w.rangeAt b (off + i * k) (enc x) := by
  obtain ⟨b, off, x, e, hb, hx, hc⟩ := Recs.at_ hk hk0 h hi
  refine ⟨b, off, x, e, hb, hx, fun j v hv => ?_⟩
  have := hc j v hv
  rwa [← Nat.add_assoc] at this
set_option maxRecDepth 100000 in
set_option maxHeartbeats 4000000 in
theorem SameOffers_same (A1 A2 : Option Addr) (n c1 c2 : Nat) (l : List OfR) (w : World) (ha : Ofs w w.heap.size A1 n l) (hb : Ofs w w.heap.size A2 n l) (hn : n ≤ 100000) :
    Calls Try.prog 21 #[.slice A1 n c1, .slice A2 n c2] w fun e w' => e = .returned (.bool true) ∧ Below w.heap.size w w' := by
  have HA := Lib.hid ha.1
  go_enter Try.func21, Try.ntmps21
  go_wp2_with fail
  go_loopw [5] (fun s5 wr => ∃ (k : Nat), k ≤ n ∧ s5 = .int .i64 k ∧ Below w.heap.size w wr) (fun s5 _ => n - (intOf s5).toNat)
  case atStart => exact ⟨0, Nat.zero_le _, rfl, Below.refl _ _⟩
  case round =>
    obtain ⟨k, hk, rfl, hbr⟩ := hrel
    by_cases hlt : k < n
    · obtain ⟨b1, o1, x, hA1, l1, hx, r1⟩ := Recs.range encOf_len (by omega) (ha.below hbr) hlt
      obtain ⟨b2, o2, y, hA2, l2, hy, r2⟩ := Recs.range encOf_len (by omega) (hb.below hbr) hlt
      obtain rfl : x = y := by have h1 := hx.out; rw [hy.out] at h1; injection h1 with h1; exact h1.symm
      have hE := fun wx => eqOf_self x wx
      have j0 : (0 : Int) ≤ (k : Int) := by omega
      have j1 : (k : Int) < (n : Int) := by omega
      rw [hA1, hA2]
      clear hA1 hA2
      go_upto_region 6 with fail
      have hS : wr.drew.rangeAt b1 (o1 + k * 9) (encOf x) ∧ wr.drew.rangeAt b2 (o2 + k * 9) (encOf x) ∧ Below w.heap.size w wr.drew := ⟨r1, r2, hbr.drew⟩
      refine wp_region_held_drew (S := (fun wx => wx.rangeAt b1 (o1 + k * 9) (encOf x) ∧ wx.rangeAt b2 (o2 + k * 9) (encOf x) ∧ Below w.heap.size w wx)) (by kernel_rfl) ?_ (fun hHeld => ?_)
      · (try dsimp only); first | done | ((first | exact hS | skip))
      first
        | (refine wpAnyH_take (i := 0) (v := ?_) rfl (by kernel_rfl) (by kernel_rfl) (by kernel_rfl) (fun _ _ _ h => h) (Or.inl ⟨by rfl, ?_⟩) hHeld ?_; rotate_left; (intro wq hSw; (try dsimp only at hSw); go_simp; done))
        | (refine wpAnyH_take (i := 0) (v := ?_) rfl (by kernel_rfl) (by kernel_rfl) (by kernel_rfl) (fun _ _ _ h => h) (Or.inl ⟨by rfl, ?_⟩) hHeld ?_; rotate_left; (intro wq hSw; (try dsimp only at hSw); go_simp; with_reducible rfl))
        | refine wpAnyH_take (i := 0) (v := undef) rfl (by kernel_rfl) (by kernel_rfl) (by kernel_rfl) (fun _ _ _ h => h) (Or.inr ⟨by rfl, rfl⟩) hHeld ?_
      try simp only [Act.put, List.getElem_toArray, List.getElem_cons_succ, List.getElem_cons_zero, List.setIfInBounds_toArray, List.set_cons_zero, List.set_cons_succ]
      first
        | (refine wpAnyH_take (i := 1) (v := ?_) rfl (by kernel_rfl) (by kernel_rfl) (by kernel_rfl) (fun _ _ _ h => h) (Or.inl ⟨by rfl, ?_⟩) hHeld ?_; rotate_left; (intro wq hSw; (try dsimp only at hSw); go_simp; done))
        | (refine wpAnyH_take (i := 1) (v := ?_) rfl (by kernel_rfl) (by kernel_rfl) (by kernel_rfl) (fun _ _ _ h => h) (Or.inl ⟨by rfl, ?_⟩) hHeld ?_; rotate_left; (intro wq hSw; (try dsimp only at hSw); go_simp; with_reducible rfl))
        | refine wpAnyH_take (i := 1) (v := undef) rfl (by kernel_rfl) (by kernel_rfl) (by kernel_rfl) (fun _ _ _ h => h) (Or.inr ⟨by rfl, rfl⟩) hHeld ?_
      try simp only [Act.put, List.getElem_toArray, List.getElem_cons_succ, List.getElem_cons_zero, List.setIfInBounds_toArray, List.set_cons_zero, List.set_cons_succ]
      first
        | (refine wpAnyH_take (i := 4) (v := ?_) rfl (by kernel_rfl) (by kernel_rfl) (by kernel_rfl) (fun _ _ _ h => h) (Or.inl ⟨by rfl, ?_⟩) hHeld ?_; rotate_left; (intro wq hSw; (try dsimp only at hSw); go_simp; done))
        | (refine wpAnyH_take (i := 4) (v := ?_) rfl (by kernel_rfl) (by kernel_rfl) (by kernel_rfl) (fun _ _ _ h => h) (Or.inl ⟨by rfl, ?_⟩) hHeld ?_; rotate_left; (intro wq hSw; (try dsimp only at hSw); go_simp; with_reducible rfl))
        | refine wpAnyH_take (i := 4) (v := undef) rfl (by kernel_rfl) (by kernel_rfl) (by kernel_rfl) (fun _ _ _ h => h) (Or.inr ⟨by rfl, rfl⟩) hHeld ?_
      try simp only [Act.put, List.getElem_toArray, List.getElem_cons_succ, List.getElem_cons_zero, List.setIfInBounds_toArray, List.set_cons_zero, List.set_cons_succ]
      first
        | (refine wpAnyH_take (i := 5) (v := ?_) rfl (by kernel_rfl) (by kernel_rfl) (by kernel_rfl) (fun _ _ _ h => h) (Or.inl ⟨by rfl, ?_⟩) hHeld ?_; rotate_left; (intro wq hSw; (try dsimp only at hSw); go_simp; done))
        | (refine wpAnyH_take (i := 5) (v := ?_) rfl (by kernel_rfl) (by kernel_rfl) (by kernel_rfl) (fun _ _ _ h => h) (Or.inl ⟨by rfl, ?_⟩) hHeld ?_; rotate_left; (intro wq hSw; (try dsimp only at hSw); go_simp; with_reducible rfl))
        | refine wpAnyH_take (i := 5) (v := undef) rfl (by kernel_rfl) (by kernel_rfl) (by kernel_rfl) (fun _ _ _ h => h) (Or.inr ⟨by rfl, rfl⟩) hHeld ?_
      try simp only [Act.put, List.getElem_toArray, List.getElem_cons_succ, List.getElem_cons_zero, List.setIfInBounds_toArray, List.set_cons_zero, List.set_cons_succ]
      first
        | (refine wpAnyH_take (i := 2) (v := ?_) rfl (by kernel_rfl) (by kernel_rfl) (by kernel_rfl) (fun _ _ _ h => h) (Or.inl ⟨by rfl, ?_⟩) hHeld ?_; rotate_left; (intro wq hSw; (try dsimp only at hSw); go_simp; done))
        | (refine wpAnyH_take (i := 2) (v := ?_) rfl (by kernel_rfl) (by kernel_rfl) (by kernel_rfl) (fun _ _ _ h => h) (Or.inl ⟨by rfl, ?_⟩) hHeld ?_; rotate_left; (intro wq hSw; (try dsimp only at hSw); go_simp; with_reducible rfl))
        | refine wpAnyH_take (i := 2) (v := undef) rfl (by kernel_rfl) (by kernel_rfl) (by kernel_rfl) (fun _ _ _ h => h) (Or.inr ⟨by rfl, rfl⟩) hHeld ?_
      try simp only [Act.put, List.getElem_toArray, List.getElem_cons_succ, List.getElem_cons_zero, List.setIfInBounds_toArray, List.set_cons_zero, List.set_cons_succ]
      first
        | (refine wpAnyH_take (i := 6) (v := ?_) rfl (by kernel_rfl) (by kernel_rfl) (by kernel_rfl) (fun _ _ _ h => h) (Or.inl ⟨by rfl, ?_⟩) hHeld ?_; rotate_left; (intro wq hSw; (try dsimp only at hSw); go_simp; done))
        | (refine wpAnyH_take (i := 6) (v := ?_) rfl (by kernel_rfl) (by kernel_rfl) (by kernel_rfl) (fun _ _ _ h => h) (Or.inl ⟨by rfl, ?_⟩) hHeld ?_; rotate_left; (intro wq hSw; (try dsimp only at hSw); go_simp; with_reducible rfl))
        | refine wpAnyH_take (i := 6) (v := undef) rfl (by kernel_rfl) (by kernel_rfl) (by kernel_rfl) (fun _ _ _ h => h) (Or.inr ⟨by rfl, rfl⟩) hHeld ?_
      try simp only [Act.put, List.getElem_toArray, List.getElem_cons_succ, List.getElem_cons_zero, List.setIfInBounds_toArray, List.set_cons_zero, List.set_cons_succ]
      refine wpAnyH_take (i := 3) (v := (.agg #[.int .i8 x.1, .int .i64 x.2.1, .int .i8 x.2.2.1, .int .i64 x.2.2.2.1, .int .i64 x.2.2.2.2.1, .int .i64 x.2.2.2.2.2, .string ⟨#[]⟩, .int .i64 0, .int .i64 0])) rfl (by kernel_rfl) (by kernel_rfl) (by kernel_rfl) (fun _ _ _ h => h) (Or.inl ⟨by rfl, ?_⟩) hHeld ?_
      · intro wq hSw; (try dsimp only at hSw); exact exec_loadMid 103 _ rfl b1 (o1 + k * 9) rfl (encOf x) _ hSw.1 Try.underlying103 rfl (by kernel_rfl)
      try simp only [Act.put, List.getElem_toArray, List.getElem_cons_succ, List.getElem_cons_zero, List.setIfInBounds_toArray, List.set_cons_zero, List.set_cons_succ]
      refine wpAnyH_take (i := 7) (v := (.agg #[.int .i8 x.1, .int .i64 x.2.1, .int .i8 x.2.2.1, .int .i64 x.2.2.2.1, .int .i64 x.2.2.2.2.1, .int .i64 x.2.2.2.2.2, .string ⟨#[]⟩, .int .i64 0, .int .i64 0])) rfl (by kernel_rfl) (by kernel_rfl) (by kernel_rfl) (fun _ _ _ h => h) (Or.inl ⟨by rfl, ?_⟩) hHeld ?_
      · intro wq hSw; (try dsimp only at hSw); exact exec_loadMid 103 _ rfl b2 (o2 + k * 9) rfl (encOf x) _ hSw.2.1 Try.underlying103 rfl (by kernel_rfl)
      try simp only [Act.put, List.getElem_toArray, List.getElem_cons_succ, List.getElem_cons_zero, List.setIfInBounds_toArray, List.set_cons_zero, List.set_cons_succ]
      first
        | (refine wpAnyH_take (i := 8) (v := ?_) rfl (by kernel_rfl) (by kernel_rfl) (by kernel_rfl) (fun _ _ _ h => h) (Or.inl ⟨by rfl, ?_⟩) hHeld ?_; rotate_left; (intro wq hSw; (try dsimp only at hSw); go_simp; done))
        | (refine wpAnyH_take (i := 8) (v := ?_) rfl (by kernel_rfl) (by kernel_rfl) (by kernel_rfl) (fun _ _ _ h => h) (Or.inl ⟨by rfl, ?_⟩) hHeld ?_; rotate_left; (intro wq hSw; (try dsimp only at hSw); go_simp; with_reducible rfl))
        | refine wpAnyH_take (i := 8) (v := undef) rfl (by kernel_rfl) (by kernel_rfl) (by kernel_rfl) (fun _ _ _ h => h) (Or.inr ⟨by rfl, rfl⟩) hHeld ?_
      try simp only [Act.put, List.getElem_toArray, List.getElem_cons_succ, List.getElem_cons_zero, List.setIfInBounds_toArray, List.set_cons_zero, List.set_cons_succ]
      refine wpAnyH_done (by kernel_rfl) ?_ _
      (clear hE; go_wp2_with fail; go_roundw; (case rel => exact ⟨k + 1, by omega, by go_num, hHeld.2.2⟩); (case measure => simp [intOf]; omega))
    · go_wp2_with fail
      go_ret
      exact ⟨rfl, hbr⟩
end Go.Proofs.Ytfahmfaakjnpcaa
namespace Go.Proofs.Ytfahmfaakjnpcaa
set_option linter.unusedVariables false
set_option linter.unusedSimpArgs false
open Go.RowKit

abbrev Dig := Option Nat × List Nat × List Nat
def digOf (ops : Array Oper) (o : Oper) : Dig := (o.dst, o.looksAt ops, (o.after.toList.filter (Region.binds .any)).map (·.on))
def apartD (x y : Dig) : Bool :=
  (match x.1 with
   | some d => !y.2.1.contains d && y.1 != some d
   | none => true) &&
  (match y.1 with
   | some d => !x.2.1.contains d
   | none => true)
def lexD : Nat → List Dig → Bool
  | _, [] => true
  | k, x :: r => x.2.2.all (fun e => Nat.blt e k) && r.all (fun y => y.2.2.contains k || apartD x y) && lexD (k + 1) r

theorem lexD_drop {s : List Dig} : ∀ (r : List Dig) (k : Nat), lexD k r = true → (∀ j, r[j]? = s[k + j]?) → ∀ i x, r[i]? = some x →
    (∀ e ∈ x.2.2, e < k + i) ∧ ∀ j y, i < j → r[j]? = some y → (k + i) ∈ y.2.2 ∨ apartD x y = true
  | [], _, _, _, _, _, h => by simp at h
  | z :: r, k, h, hs, i, x, hx => by
    simp only [lexD, Bool.and_eq_true, List.all_eq_true] at h
    obtain ⟨⟨h1, h2⟩, h3⟩ := h
    cases i with
    | zero =>
      obtain rfl : z = x := by simpa using hx
      refine ⟨fun e he => by have := h1 e he; simpa [Nat.blt_eq] using this, fun j y hj hy => ?_⟩
      obtain ⟨j, rfl⟩ : ∃ m, j = m + 1 := ⟨j - 1, by omega⟩
      have hm : y ∈ r := List.mem_of_getElem? (by simpa using hy)
      simpa using h2 y hm
    | succ i =>
      have := lexD_drop (s := s) r (k + 1) h3 (fun j => by have := hs (j + 1); simpa [Nat.add_assoc, Nat.add_comm 1 j] using this) i x (by simpa using hx)
      refine ⟨fun e he => by have := this.1 e he; omega, fun j y hj hy => ?_⟩
      obtain ⟨j, rfl⟩ : ∃ m, j = m + 1 := ⟨j - 1, by omega⟩
      have := this.2 j y (by omega) (by simpa using hy)
      rwa [show k + 1 + i = k + (i + 1) by omega] at this

theorem lexFrom_of {ops : Array Oper}
    (H : ∀ (i : Nat) (o : Oper), ops[i]? = some o → (∀ e ∈ (digOf ops o).2.2, e < i) ∧ ∀ (j : Nat) (p : Oper), i < j → ops[j]? = some p → i ∈ (digOf ops p).2.2 ∨ apartD (digOf ops o) (digOf ops p) = true) :
    ∀ (fuel k : Nat) (listed : Array Bool), k + fuel = ops.size → listed.size = ops.size → (∀ j, j < ops.size → listed[j]? = some (decide (j < k))) → Region.lexFrom .any ops fuel k listed = true
  | 0, k, listed, hk, hn, hl => by
    unfold Region.lexFrom
    rw [List.isEmpty_iff]
    cases hr : Region.ready .any ops listed with
    | nil => rfl
    | cons j r =>
      have hj : j ∈ Region.ready .any ops listed := by rw [hr]; simp
      obtain ⟨h1, o, ho, _⟩ := mem_ready.1 hj
      have hlt : j < ops.size := (Array.getElem?_eq_some_iff.1 ho).1
      rw [Array.getD_eq_getD_getElem?, hl j hlt] at h1
      have : j < k := by omega
      simp [this] at h1
  | fuel + 1, k, listed, hk, hn, hl => by
    have hlt : k < ops.size := by omega
    have ho : ops[k]? = some ops[k] := Array.getElem?_eq_getElem hlt
    obtain ⟨he, hap⟩ := H k _ ho
    unfold Region.lexFrom
    simp only [Bool.and_eq_true]
    refine ⟨⟨?_, ?_⟩, ?_⟩
    · have : k ∈ Region.ready .any ops listed := by
        refine mem_ready.2 ⟨?_, ops[k], ho, fun e hm hb => ?_⟩
        · rw [Array.getD_eq_getD_getElem?, hl k hlt]; simp
        · have h1 := he e.on (by
            simp only [digOf, List.mem_map, List.mem_filter]
            exact ⟨e, ⟨Array.mem_toList_iff.2 hm, hb⟩, rfl⟩)
          rw [Array.getD_eq_getD_getElem?, hl _ (by omega)]
          simpa using h1
      simpa using this
    · simp only [Region.free, ho, List.all_eq_true, List.mem_range, Bool.or_eq_true, beq_iff_eq]
      intro j hj
      rw [Array.getD_eq_getD_getElem?, hl j hj]
      by_cases hjk : j < k
      · exact .inl (.inr (by simpa using hjk))
      · by_cases hjk' : j = k
        · exact .inl (.inl hjk')
        · have hoj : ops[j]? = some ops[j] := Array.getElem?_eq_getElem hj
          refine .inr ?_
          rw [hoj]
          rcases hap j _ (by omega) hoj with h1 | h1
          · simp only [Bool.or_eq_true]
            refine .inl ?_
            simp only [digOf, List.mem_map, List.mem_filter] at h1
            obtain ⟨e, ⟨hm, hb⟩, rfl⟩ := h1
            rw [Array.any_eq_true']
            exact ⟨e, Array.mem_toList_iff.1 hm, by simp [hb]⟩
          · simp only [Bool.or_eq_true]
            exact .inr h1
    · refine lexFrom_of H fuel (k + 1) _ (by omega) (by simpa using hn) fun j hj => ?_
      rw [Array.getElem?_setIfInBounds]
      by_cases hjk : k = j
      · subst hjk
        rw [if_pos rfl, if_pos (by omega)]
        simp
      · rw [if_neg hjk, hl j hj]
        congr 1
        simp only [decide_eq_decide]
        omega

theorem lexB_of {ops : Array Oper} {s : List Dig} (hn : Region.noSelect ops = true) (hs : ops.toList.map (digOf ops) = s) (h : lexD 0 s = true) : Region.lexB .any ops = true := by
  unfold Region.lexB
  rw [Bool.and_eq_true]
  refine ⟨hn, lexFrom_of (fun i o ho => ?_) ops.size 0 _ (by omega) (by simp) fun j hj => by simp [hj]⟩
  have hi : s[i]? = some (digOf ops o) := by rw [← hs, List.getElem?_map, Array.getElem?_toList, ho]; rfl
  have := lexD_drop (s := s) s 0 h (fun j => by simp) i _ hi
  rw [Nat.zero_add] at this
  refine ⟨this.1, fun j p hj hp => this.2 j _ hj ?_⟩
  rw [← hs, List.getElem?_map, Array.getElem?_toList, hp]; rfl

theorem wp_region_quiet_dig {P : Program} {id : Nat} {Q : Exit → Act → World → Prop} {a : Act} {w : World} {l : List Oper} (s : List Dig) (hm : P.follows .mixedOrders = true) (hn : Region.noSelect l.toArray = true)
    (hs : l.map (digOf l.toArray) = s) (h : lexD 0 s = true)
    (hq : wpQuiet P l.toArray (fun w' => ∃ n, w' = w.drewN n) (fun a' => ∀ w', (∃ n, w' = w.drewN n) → Q .normal a' w') l a) : (Code.region id l.toArray true).wp P Q a w :=
  wp_region_quiet_lit hm (lexB_of hn hs h) hq
end Go.Proofs.Ytfahmfaakjnpcaa
namespace Go.Proofs.Ytfahmfaakjnpcaa
set_option linter.unusedVariables false
set_option linter.unusedSimpArgs false
open Go.RowKit Go.Shelf

set_option maxRecDepth 100000 in
set_option maxHeartbeats 4000000 in
theorem scars16_nil (A1 A2 : Option Addr) (c1 c2 : Nat) (w : World) : Calls Try.prog 60 #[.slice A1 0 c1, .slice A2 0 c2] w fun e w' => e = .returned (.bool true) ∧ w = w' := by
  go_enter Try.func60, Try.ntmps60
  go_wp2
  go_loopw [5] (fun s5 wr => s5 = .int .i64 0 ∧ w = wr) (fun _ _ => 0)
  case atStart => exact ⟨rfl, rfl⟩
  case round =>
    obtain ⟨rfl, rfl⟩ := hrel
    go_wp2
    go_ret
    exact ⟨rfl, rfl⟩
theorem eqAt_self (w : World) : (Op.equalIn 10000 70 (.agg #[.int .i64 0, .int .i64 0, .int .i64 0, .int .i64 0, .int .i8 0, .int .u16 0, .int .u16 0, .int .u16 0, .int .u16 0, .int .u16 0, .int .u16 0, .int .u16 0, .int .u16 0, .int .i64 0, .int .i8 0, .int .i64 0]) (.agg #[.int .i64 0, .int .i64 0, .int .i64 0, .int .i64 0, .int .i8 0, .int .u16 0, .int .u16 0, .int .u16 0, .int .u16 0, .int .u16 0, .int .u16 0, .int .u16 0, .int .u16 0, .int .i64 0, .int .i8 0, .int .i64 0])).run Try.prog w = .ok true w := by kernel_rfl
set_option maxHeartbeats 4000000 in
theorem eqSk_self (s : Sk) (w : World) : (Op.equalIn 10000 72 (.agg #[.int .i64 s.1, .int .i64 s.2.1, .string s.2.2, .int .i8 0, .int .i8 0, .int .i64 0, .int .i64 0, .int .i64 0, .string ⟨#[]⟩, .int .i64 0]) (.agg #[.int .i64 s.1, .int .i64 s.2.1, .string s.2.2, .int .i8 0, .int .i8 0, .int .i64 0, .int .i64 0, .int .i64 0, .string ⟨#[]⟩, .int .i64 0])).run Try.prog w = .ok true w := by
  have u3 := Try.underlying3
  have u4 := Try.underlying37
  have u5 := Try.underlying9
  have hS : Try.prog.underlying 72 = some (.struct (Try.prog.fieldsOf 72)) := by kernel_rfl
  have hp : Try.prog.stoodInHeld 72 = false := by kernel_rfl
  have hL := fun wx => eqLt_self 9997 ⟨0, 0, 0, 0, ⟨#[]⟩, 0⟩ wx
  rw [show (10000 : Nat) = 9997 + 1 + 1 + 1 from rfl, run_equalIn_agg w (9997 + 1 + 1) 72 _ _ hS hp]
  simp only [Program.fieldsOf, Try.underlying72]
  go_simp
def raceA : Array Value := #[.int .i64 0, .int .i64 0, .int .i64 0, .int .i64 0, .int .i64 0, .int .i64 0, .int .i64 0, .int .i64 0, .int .i64 0, .int .i64 0, .int .i64 0, .int .i64 0, .string ⟨#[]⟩, .int .i64 0, .slice none 0 0, .int .i8 0, .slice none 0 0, .int .i64 0, .int .i64 0, .slice none 0 0, .int .i64 0, .bool false]
structure SpS (w : World) (g1 g2 : Nat) (s : Sk) (wx : World) : Prop where
  r1 : wx.heap[g1]? = some (.cells (procCells s) 74 (0, 0))
  r2 : wx.heap[g2]? = some (.cells (procCells s) 74 (0, 0))
  bel : Below w.heap.size w wx
  new : ∀ b, w.heap.size ≤ b → b < wx.heap.size → wx.heap[b]? = some (.cells raceA 68 (0, 0))
  l1 : g1 < w.heap.size
  l2 : g2 < w.heap.size
theorem SpS.al {w wx : World} {g1 g2 : Nat} {s : Sk} (h : SpS w g1 g2 s wx) : SpS w g1 g2 s (wx.alloc (.cells raceA 68)) := by
  have hs := h.bel.size
  have h1 := h.l1
  have h2 := h.l2
  refine ⟨(Below.heap_alloc _ _ _ (by omega)).trans h.r1, (Below.heap_alloc _ _ _ (by omega)).trans h.r2, h.bel.alloc hs _, fun b hb hlt => ?_, h1, h2⟩
  by_cases he : b < wx.heap.size
  · exact (Below.heap_alloc _ _ _ he).trans (h.new b hb he)
  · obtain rfl : b = wx.heap.size := by simp at hlt; omega
    exact heap_alloc_new wx _
theorem SpS.row {w wx : World} {g1 g2 b : Nat} {s : Sk} (h : SpS w g1 g2 s wx) (hb : w.heap.size ≤ b) (hlt : b < wx.heap.size) : SpS w g1 g2 s (wx.setRow b raceA) := by
  have h1 := h.l1
  have h2 := h.l2
  refine ⟨(setRow_other wx b _ _ (by omega)).trans h.r1, (setRow_other wx b _ _ (by omega)).trans h.r2, setRow_below _ h.bel hb, fun c hc hlc => ?_, h1, h2⟩
  rw [size_setRow] at hlc
  by_cases he : c = b
  · subst he
    exact setRow_heap wx c _ _ _ _ (h.new c hc hlc)
  · exact (setRow_other wx b c _ he).trans (h.new c hc hlc)
theorem rangeAt_chunk {w : World} {b o : Nat} {cs : List Value} (h : w.rangeAt b o cs) (i n : Nat) : w.rangeAt b (o + i) ((cs.drop i).take n) :=
  rangeAt_sub h i _ fun j v hv => by
    rw [List.getElem?_take] at hv
    split at hv
    · rwa [List.getElem?_drop] at hv
    · cases hv
def attA : Array Value := #[.int .i64 0, .int .i64 0, .int .i64 0, .int .i64 0, .int .i8 0, .int .u16 0, .int .u16 0, .int .u16 0, .int .u16 0, .int .u16 0, .int .u16 0, .int .u16 0, .int .u16 0, .int .i64 0, .int .i8 0, .int .i64 0]
def seekA (s : Sk) : Array Value := #[.int .i64 s.1, .int .i64 s.2.1, .string s.2.2, .int .i8 0, .int .i8 0, .int .i64 0, .int .i64 0, .int .i64 0, .string ⟨#[]⟩, .int .i64 0]
def confA : Array Value := #[.int .i64 0, .int .i64 0, .int .i64 0, .int .i64 0, .int .i64 0, .int .i64 0, .int .i64 0, .int .i64 0, .int .i64 0]
structure SpR (w : World) (g1 g2 x y : Nat) (s : Sk) (wx : World) : Prop where
  r1 : wx.heap[g1]? = some (.cells (procCells s) 74 (0, 0))
  r2 : wx.heap[g2]? = some (.cells (procCells s) 74 (0, 0))
  rx : wx.heap[x]? = some (.cells raceA 68 (0, 0))
  ry : wx.heap[y]? = some (.cells raceA 68 (0, 0))
  bel : Below w.heap.size w wx
theorem race_cells {w : World} {g : Nat} (h : w.heap[g]? = some (.cells raceA 68 (0, 0))) : w.rangeAt g 0 raceA.toList := rangeAt_row h
theorem eqCf0 (w : World) : (Op.equalIn 10000 25 (.agg #[.int .i64 0, .int .i64 0, .int .i64 0, .int .i64 0, .int .i64 0, .int .i64 0, .int .i64 0, .int .i64 0, .int .i64 0]) (.agg #[.int .i64 0, .int .i64 0, .int .i64 0, .int .i64 0, .int .i64 0, .int .i64 0, .int .i64 0, .int .i64 0, .int .i64 0])).run Try.prog w = .ok true w := by kernel_rfl
set_option maxRecDepth 100000 in
set_option maxHeartbeats 8000000 in
theorem spawned_same (go1 go2 : Option Addr) (s : Option Sk) (w : World) (h1 : GoIs w w.heap.size go1 s) (h2 : GoIs w w.heap.size go2 s) :
    Calls Try.prog 37 #[.pointer go1, .pointer go2] w fun e w' => e = .returned (.bool true) ∧ Below w.heap.size w w' := by
  cases s with
  | none =>
    obtain rfl := go_none h1
    obtain rfl := go_none h2
    go_enter Try.func37, Try.ntmps37
    go_wp2_with fail
    go_ret
    exact ⟨rfl, Below.refl _ _⟩
  | some s =>
    have hg : ∀ {go : Option Addr}, GoIs w w.heap.size go (some s) → ∃ g, go = some ⟨g, 0, none⟩ ∧ w.heap[g]? = some (.cells (procCells s) 74 (0, 0)) := by
      intro go h
      rcases go with _ | a
      · exact h.elim
      · obtain ⟨g, rfl, _, hh⟩ := h
        exact ⟨g, rfl, hh⟩
    obtain ⟨g1, rfl, r1⟩ := hg h1
    obtain ⟨g2, rfl, r2⟩ := hg h2
    clear hg h1 h2
    go_enter Try.func37, Try.ntmps37
    go_upto_region 3 with fail
    have l1 := (Array.getElem?_eq_some_iff.1 r1).1
    have l2 := (Array.getElem?_eq_some_iff.1 r2).1
    have hS : SpS w g1 g2 s w.drew := ⟨r1, r2, (Below.refl _ _).drew, fun b h1 h2 => absurd (Nat.lt_of_lt_of_le h2 h1) (Nat.lt_irrefl _), l1, l2⟩
    go_cut [5, 6] (fun s5 s6 wx => ∃ x y, s5 = .pointer (some ⟨x, 0, none⟩) ∧ s6 = .pointer (some ⟨y, 0, none⟩) ∧ SpS w g1 g2 s wx ∧ w.heap.size ≤ x ∧ x < wx.heap.size ∧ w.heap.size ≤ y ∧ y < wx.heap.size)
    case first =>
      as_aux_lemma =>
        refine wp_region_held_drew (S := (fun wx => SpS w g1 g2 s wx)) (by kernel_rfl) ?_ (fun hHeld => ?_)
        · (try dsimp only); first | done | ((first | exact hS | exact hHeld.al | exact hHeld.row (by simp) (by first | omega | (simp; done) | ((try rw [size_setRow]); (show _ < ((w.alloc _).alloc _).heap.size); simp <;> omega))))
        first
          | (refine wpAnyH_take (i := 0) (v := ?_) rfl (by kernel_rfl) (by kernel_rfl) (by kernel_rfl) (fun _ _ _ h => h) (Or.inl ⟨by rfl, ?_⟩) hHeld ?_; rotate_left; (intro wq hSw; (try dsimp only at hSw); go_simp; done))
          | (refine wpAnyH_take (i := 0) (v := ?_) rfl (by kernel_rfl) (by kernel_rfl) (by kernel_rfl) (fun _ _ _ h => h) (Or.inl ⟨by rfl, ?_⟩) hHeld ?_; rotate_left; (intro wq hSw; (try dsimp only at hSw); go_simp; with_reducible rfl))
          | refine wpAnyH_take (i := 0) (v := undef) rfl (by kernel_rfl) (by kernel_rfl) (by kernel_rfl) (fun _ _ _ h => h) (Or.inr ⟨by rfl, rfl⟩) hHeld ?_
        try simp only [Act.put, List.getElem_toArray, List.getElem_cons_succ, List.getElem_cons_zero, List.setIfInBounds_toArray, List.set_cons_zero, List.set_cons_succ]
        first
          | (refine wpAnyH_take (i := 4) (v := ?_) rfl (by kernel_rfl) (by kernel_rfl) (by kernel_rfl) (fun _ _ _ h => h) (Or.inl ⟨by rfl, ?_⟩) hHeld ?_; rotate_left; (intro wq hSw; (try dsimp only at hSw); go_simp; done))
          | (refine wpAnyH_take (i := 4) (v := ?_) rfl (by kernel_rfl) (by kernel_rfl) (by kernel_rfl) (fun _ _ _ h => h) (Or.inl ⟨by rfl, ?_⟩) hHeld ?_; rotate_left; (intro wq hSw; (try dsimp only at hSw); go_simp; with_reducible rfl))
          | refine wpAnyH_take (i := 4) (v := undef) rfl (by kernel_rfl) (by kernel_rfl) (by kernel_rfl) (fun _ _ _ h => h) (Or.inr ⟨by rfl, rfl⟩) hHeld ?_
        try simp only [Act.put, List.getElem_toArray, List.getElem_cons_succ, List.getElem_cons_zero, List.setIfInBounds_toArray, List.set_cons_zero, List.set_cons_succ]
        first
          | (refine wpAnyH_take (i := 1) (v := ?_) rfl (by kernel_rfl) (by kernel_rfl) (by kernel_rfl) (fun _ _ _ h => h) (Or.inl ⟨by rfl, ?_⟩) hHeld ?_; rotate_left; (intro wq hSw; (try dsimp only at hSw); go_simp; done))
          | (refine wpAnyH_take (i := 1) (v := ?_) rfl (by kernel_rfl) (by kernel_rfl) (by kernel_rfl) (fun _ _ _ h => h) (Or.inl ⟨by rfl, ?_⟩) hHeld ?_; rotate_left; (intro wq hSw; (try dsimp only at hSw); go_simp; with_reducible rfl))
          | refine wpAnyH_take (i := 1) (v := undef) rfl (by kernel_rfl) (by kernel_rfl) (by kernel_rfl) (fun _ _ _ h => h) (Or.inr ⟨by rfl, rfl⟩) hHeld ?_
        try simp only [Act.put, List.getElem_toArray, List.getElem_cons_succ, List.getElem_cons_zero, List.setIfInBounds_toArray, List.set_cons_zero, List.set_cons_succ]
        first
          | (refine wpAnyH_take (i := 5) (v := ?_) rfl (by kernel_rfl) (by kernel_rfl) (by kernel_rfl) (fun _ _ _ h => h) (Or.inl ⟨by rfl, ?_⟩) hHeld ?_; rotate_left; (intro wq hSw; (try dsimp only at hSw); go_simp; done))
          | (refine wpAnyH_take (i := 5) (v := ?_) rfl (by kernel_rfl) (by kernel_rfl) (by kernel_rfl) (fun _ _ _ h => h) (Or.inl ⟨by rfl, ?_⟩) hHeld ?_; rotate_left; (intro wq hSw; (try dsimp only at hSw); go_simp; with_reducible rfl))
          | refine wpAnyH_take (i := 5) (v := undef) rfl (by kernel_rfl) (by kernel_rfl) (by kernel_rfl) (fun _ _ _ h => h) (Or.inr ⟨by rfl, rfl⟩) hHeld ?_
        try simp only [Act.put, List.getElem_toArray, List.getElem_cons_succ, List.getElem_cons_zero, List.setIfInBounds_toArray, List.set_cons_zero, List.set_cons_succ]
        first
          | (refine wpAnyH_take (i := 2) (v := ?_) rfl (by kernel_rfl) (by kernel_rfl) (by kernel_rfl) (fun _ _ _ h => h) (Or.inl ⟨by rfl, ?_⟩) hHeld ?_; rotate_left; (intro wq hSw; (try dsimp only at hSw); go_simp; done))
          | (refine wpAnyH_take (i := 2) (v := ?_) rfl (by kernel_rfl) (by kernel_rfl) (by kernel_rfl) (fun _ _ _ h => h) (Or.inl ⟨by rfl, ?_⟩) hHeld ?_; rotate_left; (intro wq hSw; (try dsimp only at hSw); go_simp; with_reducible rfl))
          | refine wpAnyH_take (i := 2) (v := undef) rfl (by kernel_rfl) (by kernel_rfl) (by kernel_rfl) (fun _ _ _ h => h) (Or.inr ⟨by rfl, rfl⟩) hHeld ?_
        try simp only [Act.put, List.getElem_toArray, List.getElem_cons_succ, List.getElem_cons_zero, List.setIfInBounds_toArray, List.set_cons_zero, List.set_cons_succ]
        first
          | (refine wpAnyH_take (i := 6) (v := ?_) rfl (by kernel_rfl) (by kernel_rfl) (by kernel_rfl) (fun _ _ _ h => h) (Or.inl ⟨by rfl, ?_⟩) hHeld ?_; rotate_left; (intro wq hSw; (try dsimp only at hSw); go_simp; done))
          | (refine wpAnyH_take (i := 6) (v := ?_) rfl (by kernel_rfl) (by kernel_rfl) (by kernel_rfl) (fun _ _ _ h => h) (Or.inl ⟨by rfl, ?_⟩) hHeld ?_; rotate_left; (intro wq hSw; (try dsimp only at hSw); go_simp; with_reducible rfl))
          | refine wpAnyH_take (i := 6) (v := undef) rfl (by kernel_rfl) (by kernel_rfl) (by kernel_rfl) (fun _ _ _ h => h) (Or.inr ⟨by rfl, rfl⟩) hHeld ?_
        try simp only [Act.put, List.getElem_toArray, List.getElem_cons_succ, List.getElem_cons_zero, List.setIfInBounds_toArray, List.set_cons_zero, List.set_cons_succ]
        refine wpAnyH_take (i := 3) (v := (.agg raceA)) rfl (by kernel_rfl) (by kernel_rfl) (by kernel_rfl) (fun _ _ _ h => h) (Or.inl ⟨by rfl, ?_⟩) hHeld ?_
        · intro wq hSw; (try dsimp only at hSw); exact exec_loadMid 68 _ rfl g1 46 rfl raceA.toList _ (rangeAt_chunk (rangeAt_row hSw.r1) 46 22) Try.underlying68 rfl (by kernel_rfl)
        try simp only [Act.put, List.getElem_toArray, List.getElem_cons_succ, List.getElem_cons_zero, List.setIfInBounds_toArray, List.set_cons_zero, List.set_cons_succ]
        refine wpAnyH_take (i := 7) (v := (.agg raceA)) rfl (by kernel_rfl) (by kernel_rfl) (by kernel_rfl) (fun _ _ _ h => h) (Or.inl ⟨by rfl, ?_⟩) hHeld ?_
        · intro wq hSw; (try dsimp only at hSw); exact exec_loadMid 68 _ rfl g2 46 rfl raceA.toList _ (rangeAt_chunk (rangeAt_row hSw.r2) 46 22) Try.underlying68 rfl (by kernel_rfl)
        try simp only [Act.put, List.getElem_toArray, List.getElem_cons_succ, List.getElem_cons_zero, List.setIfInBounds_toArray, List.set_cons_zero, List.set_cons_succ]
        refine wpAnyH_ready (rs := [8, 9]) (by kernel_rfl) (by simp) ?_
        refine AllReadyH.cons rfl (fun K hK => ?_) ?_
        ·
          go_simp
          refine hK.out _ _ ?_ (fun hHeld => ?_)
          · (try dsimp only); first | done | ((first | exact hS | exact hHeld.al | exact hHeld.row (by simp) (by first | omega | (simp; done) | ((try rw [size_setRow]); (show _ < ((w.alloc _).alloc _).heap.size); simp <;> omega))))
          clear hK K
          try simp only [Act.put, List.getElem_toArray, List.getElem_cons_succ, List.getElem_cons_zero, List.setIfInBounds_toArray, List.set_cons_zero, List.set_cons_succ]
          refine wpAnyH_ready (rs := [9]) (by kernel_rfl) (by simp) ?_
          refine AllReadyH.cons rfl (fun K hK => ?_) AllReadyH.nil
          go_simp
          refine hK.out _ _ ?_ (fun hHeld => ?_)
          · (try dsimp only); first | done | ((first | exact hS | exact hHeld.al | exact hHeld.row (by simp) (by first | omega | (simp; done) | ((try rw [size_setRow]); (show _ < ((w.alloc _).alloc _).heap.size); simp <;> omega))))
          clear hK K
          try simp only [Act.put, List.getElem_toArray, List.getElem_cons_succ, List.getElem_cons_zero, List.setIfInBounds_toArray, List.set_cons_zero, List.set_cons_succ]
          refine wpAnyH_ready (rs := [10]) (by kernel_rfl) (by simp) ?_
          refine AllReadyH.cons rfl (fun K hK => ?_) AllReadyH.nil
          refine step_storeRow (by rfl) 68 _ _ rfl _ raceA rfl rfl 68 _ (hHeld.new _ (by simp) (by first | omega | (simp; done) | ((try rw [size_setRow]); (show _ < ((w.alloc _).alloc _).heap.size); simp <;> omega))) (by kernel_rfl) rfl (by kernel_rfl) ?_
          refine hK.out _ _ ?_ (fun hHeld => ?_)
          · (try dsimp only); first | done | ((first | exact hS | exact hHeld.al | exact hHeld.row (by simp) (by first | omega | (simp; done) | ((try rw [size_setRow]); (show _ < ((w.alloc _).alloc _).heap.size); simp <;> omega))))
          clear hK K
          try simp only [Act.put, List.getElem_toArray, List.getElem_cons_succ, List.getElem_cons_zero, List.setIfInBounds_toArray, List.set_cons_zero, List.set_cons_succ]
          refine wpAnyH_ready (rs := [11]) (by kernel_rfl) (by simp) ?_
          refine AllReadyH.cons rfl (fun K hK => ?_) AllReadyH.nil
          refine step_storeRow (by rfl) 68 _ _ rfl _ raceA rfl rfl 68 _ (hHeld.new _ (by simp) (by first | omega | (simp; done) | ((try rw [size_setRow]); (show _ < ((w.alloc _).alloc _).heap.size); simp <;> omega))) (by kernel_rfl) rfl (by kernel_rfl) ?_
          refine hK.out _ _ ?_ (fun hHeld => ?_)
          · (try dsimp only); first | done | ((first | exact hS | exact hHeld.al | exact hHeld.row (by simp) (by first | omega | (simp; done) | ((try rw [size_setRow]); (show _ < ((w.alloc _).alloc _).heap.size); simp <;> omega))))
          clear hK K
          try simp only [Act.put, List.getElem_toArray, List.getElem_cons_succ, List.getElem_cons_zero, List.setIfInBounds_toArray, List.set_cons_zero, List.set_cons_succ]
          refine wpAnyH_done (by kernel_rfl) ?_ _
          (go_wp2_with fail; go_meet; exact ⟨_, _, rfl, rfl, hHeld, by simp, by (repeat rw [size_setRow]); (show _ < ((w.alloc _).alloc _).heap.size); simp <;> omega, by simp, by (repeat rw [size_setRow]); (show _ < ((w.alloc _).alloc _).heap.size); simp <;> omega⟩)
        refine AllReadyH.cons rfl (fun K hK => ?_) AllReadyH.nil
        go_simp
        refine hK.out _ _ ?_ (fun hHeld => ?_)
        · (try dsimp only); first | done | ((first | exact hS | exact hHeld.al | exact hHeld.row (by simp) (by first | omega | (simp; done) | ((try rw [size_setRow]); (show _ < ((w.alloc _).alloc _).heap.size); simp <;> omega))))
        clear hK K
        try simp only [Act.put, List.getElem_toArray, List.getElem_cons_succ, List.getElem_cons_zero, List.setIfInBounds_toArray, List.set_cons_zero, List.set_cons_succ]
        refine wpAnyH_ready (rs := [8]) (by kernel_rfl) (by simp) ?_
        refine AllReadyH.cons rfl (fun K hK => ?_) AllReadyH.nil
        go_simp
        refine hK.out _ _ ?_ (fun hHeld => ?_)
        · (try dsimp only); first | done | ((first | exact hS | exact hHeld.al | exact hHeld.row (by simp) (by first | omega | (simp; done) | ((try rw [size_setRow]); (show _ < ((w.alloc _).alloc _).heap.size); simp <;> omega))))
        clear hK K
        try simp only [Act.put, List.getElem_toArray, List.getElem_cons_succ, List.getElem_cons_zero, List.setIfInBounds_toArray, List.set_cons_zero, List.set_cons_succ]
        refine wpAnyH_ready (rs := [10]) (by kernel_rfl) (by simp) ?_
        refine AllReadyH.cons rfl (fun K hK => ?_) AllReadyH.nil
        refine step_storeRow (by rfl) 68 _ _ rfl _ raceA rfl rfl 68 _ (hHeld.new _ (by simp) (by first | omega | (simp; done) | ((try rw [size_setRow]); (show _ < ((w.alloc _).alloc _).heap.size); simp <;> omega))) (by kernel_rfl) rfl (by kernel_rfl) ?_
        refine hK.out _ _ ?_ (fun hHeld => ?_)
        · (try dsimp only); first | done | ((first | exact hS | exact hHeld.al | exact hHeld.row (by simp) (by first | omega | (simp; done) | ((try rw [size_setRow]); (show _ < ((w.alloc _).alloc _).heap.size); simp <;> omega))))
        clear hK K
        try simp only [Act.put, List.getElem_toArray, List.getElem_cons_succ, List.getElem_cons_zero, List.setIfInBounds_toArray, List.set_cons_zero, List.set_cons_succ]
        refine wpAnyH_ready (rs := [11]) (by kernel_rfl) (by simp) ?_
        refine AllReadyH.cons rfl (fun K hK => ?_) AllReadyH.nil
        refine step_storeRow (by rfl) 68 _ _ rfl _ raceA rfl rfl 68 _ (hHeld.new _ (by simp) (by first | omega | (simp; done) | ((try rw [size_setRow]); (show _ < ((w.alloc _).alloc _).heap.size); simp <;> omega))) (by kernel_rfl) rfl (by kernel_rfl) ?_
        refine hK.out _ _ ?_ (fun hHeld => ?_)
        · (try dsimp only); first | done | ((first | exact hS | exact hHeld.al | exact hHeld.row (by simp) (by first | omega | (simp; done) | ((try rw [size_setRow]); (show _ < ((w.alloc _).alloc _).heap.size); simp <;> omega))))
        clear hK K
        try simp only [Act.put, List.getElem_toArray, List.getElem_cons_succ, List.getElem_cons_zero, List.setIfInBounds_toArray, List.set_cons_zero, List.set_cons_succ]
        refine wpAnyH_done (by kernel_rfl) ?_ _
        (go_wp2_with fail; go_meet; exact ⟨_, _, rfl, rfl, hHeld, by simp, by (repeat rw [size_setRow]); (show _ < ((w.alloc _).alloc _).heap.size); simp <;> omega, by simp, by (repeat rw [size_setRow]); (show _ < ((w.alloc _).alloc _).heap.size); simp <;> omega⟩)
    case rest =>
      obtain ⟨x, y, rfl, rfl, hS, hx1, hx2, hy1, hy2⟩ := hcut
      have rx := rangeAt_row (hS.new x hx1 hx2)
      have ry := rangeAt_row (hS.new y hy1 hy2)
      have q1 := rangeAt_row hS.r1
      have q2 := rangeAt_row hS.r2
      have x0 := rx 0 _ rfl
      have x1 := rx 1 _ rfl
      have x2 := rx 2 _ rfl
      have x3 := rx 3 _ rfl
      have x4 := rx 4 _ rfl
      have x5 := rx 5 _ rfl
      have x6 := rx 6 _ rfl
      have x7 := rx 7 _ rfl
      have x8 := rx 8 _ rfl
      have x9 := rx 9 _ rfl
      have x10 := rx 10 _ rfl
      have x11 := rx 11 _ rfl
      have x12 := rx 12 _ rfl
      have x13 := rx 13 _ rfl
      have x14 := rx 14 _ rfl
      have x15 := rx 15 _ rfl
      have x16 := rx 16 _ rfl
      have y0 := ry 0 _ rfl
      have y1 := ry 1 _ rfl
      have y2 := ry 2 _ rfl
      have y3 := ry 3 _ rfl
      have y4 := ry 4 _ rfl
      have y5 := ry 5 _ rfl
      have y6 := ry 6 _ rfl
      have y7 := ry 7 _ rfl
      have y8 := ry 8 _ rfl
      have y9 := ry 9 _ rfl
      have y10 := ry 10 _ rfl
      have y11 := ry 11 _ rfl
      have y12 := ry 12 _ rfl
      have y13 := ry 13 _ rfl
      have y14 := ry 14 _ rfl
      have y15 := ry 15 _ rfl
      have y16 := ry 16 _ rfl
      have p0 := q1 0 _ rfl
      have p68 := q1 68 _ rfl
      have p69 := q1 69 _ rfl
      have p70 := q1 70 _ rfl
      have p71 := q1 71 _ rfl
      have p72 := q1 72 _ rfl
      have p73 := q1 73 _ rfl
      have p74 := q1 74 _ rfl
      have p75 := q1 75 _ rfl
      have p76 := q1 76 _ rfl
      have p77 := q1 77 _ rfl
      have p78 := q1 78 _ rfl
      have p79 := q1 79 _ rfl
      have p80 := q1 80 _ rfl
      have p81 := q1 81 _ rfl
      have p82 := q1 82 _ rfl
      have p83 := q1 83 _ rfl
      have p84 := q1 84 _ rfl
      have p85 := q1 85 _ rfl
      have p86 := q1 86 _ rfl
      have p87 := q1 87 _ rfl
      have p88 := q1 88 _ rfl
      have p89 := q1 89 _ rfl
      have p90 := q1 90 _ rfl
      have p91 := q1 91 _ rfl
      have p92 := q1 92 _ rfl
      have p93 := q1 93 _ rfl
      have q0 := q2 0 _ rfl
      have q68 := q2 68 _ rfl
      have q69 := q2 69 _ rfl
      have q70 := q2 70 _ rfl
      have q71 := q2 71 _ rfl
      have q72 := q2 72 _ rfl
      have q73 := q2 73 _ rfl
      have q74 := q2 74 _ rfl
      have q75 := q2 75 _ rfl
      have q76 := q2 76 _ rfl
      have q77 := q2 77 _ rfl
      have q78 := q2 78 _ rfl
      have q79 := q2 79 _ rfl
      have q80 := q2 80 _ rfl
      have q81 := q2 81 _ rfl
      have q82 := q2 82 _ rfl
      have q83 := q2 83 _ rfl
      have q84 := q2 84 _ rfl
      have q85 := q2 85 _ rfl
      have q86 := q2 86 _ rfl
      have q87 := q2 87 _ rfl
      have q88 := q2 88 _ rfl
      have q89 := q2 89 _ rfl
      have q90 := q2 90 _ rfl
      have q91 := q2 91 _ rfl
      have q92 := q2 92 _ rfl
      have q93 := q2 93 _ rfl
      simp only [Nat.zero_add] at x0 x1 x2 x3 x4 x5 x6 x7 x8 x9 x10 x11 x12 x13 x14 x15 x16 y0 y1 y2 y3 y4 y5 y6 y7 y8 y9 y10 y11 y12 y13 y14 y15 y16 p0 p68 p69 p70 p71 p72 p73 p74 p75 p76 p77 p78 p79 p80 p81 p82 p83 p84 p85 p86 p87 p88 p89 p90 p91 p92 p93 q0 q68 q69 q70 q71 q72 q73 q74 q75 q76 q77 q78 q79 q80 q81 q82 q83 q84 q85 q86 q87 q88 q89 q90 q91 q92 q93
      have e1 := eqAt_self
      have e2 := eqSk_self s
      have e3 := eqCf0
      have hbel := hS.bel
      clear rx ry q1 q2 hS r1 r2
      go_upto_region 4 with fail
      as_aux_lemma =>
        refine wp_region_quiet_dig ((some 27, [0], []) :: (some 28, [27], [0]) :: (some 29, [28], [1]) :: (some 30, [29], [2]) :: (some 31, [1], []) :: (some 32, [31], [4]) :: (some 33, [32], [5]) :: (some 34, [33], [6]) :: (some 35, [30, 34], [3, 7]) :: (some 36, [35], [8]) :: (some 37, [0, 36], [9]) :: (some 38, [37, 36], [10, 9]) :: (some 39, [38, 36], [11, 9]) :: (some 40, [39, 36], [12, 9]) :: (some 41, [1, 36], [9]) :: (some 42, [41, 36], [14, 9]) :: (some 43, [42, 36], [15, 9]) :: (some 44, [43, 36], [16, 9]) :: (some 45, [40, 44, 36], [13, 17, 9]) :: (some 46, [36, 45], [9, 18]) :: (some 47, [46], [19, 9]) :: (some 48, [0, 47], [20]) :: (some 49, [48, 47], [21, 20]) :: (some 50, [49, 47], [22, 20]) :: (some 51, [50, 47], [23, 20]) :: (some 52, [1, 47], [20]) :: (some 53, [52, 47], [25, 20]) :: (some 54, [53, 47], [26, 20]) :: (some 55, [54, 47], [27, 20]) :: (some 56, [51, 55, 47], [24, 28, 20]) :: (some 57, [47, 56], [20, 29]) :: (some 58, [57], [30, 20]) :: (some 59, [5, 58], [31]) :: (some 60, [59, 58], [32, 31]) :: (some 61, [6, 58], [31]) :: (some 62, [61, 58], [34, 31]) :: (some 63, [60, 62, 58], [33, 35, 31]) :: (some 64, [58, 63], [31, 36]) :: (some 65, [64], [37, 31]) :: (some 66, [5, 65], [38]) :: (some 67, [66, 65], [39, 38]) :: (some 68, [6, 65], [38]) :: (some 69, [68, 65], [41, 38]) :: (some 70, [67, 69, 65], [40, 42, 38]) :: (some 71, [65, 70], [38, 43]) :: (some 72, [71], [44, 38]) :: (some 73, [5, 72], [45]) :: (some 74, [73, 72], [46, 45]) :: (some 75, [6, 72], [45]) :: (some 76, [75, 72], [48, 45]) :: (some 77, [74, 76, 72], [47, 49, 45]) :: (some 78, [72, 77], [45, 50]) :: (some 79, [78], [51, 45]) :: (some 80, [5, 79], [52]) :: (some 81, [80, 79], [53, 52]) :: (some 82, [6, 79], [52]) :: (some 83, [82, 79], [55, 52]) :: (some 84, [81, 83, 79], [54, 56, 52]) :: (some 85, [79, 84], [52, 57]) :: (some 86, [85], [58, 52]) :: (some 87, [5, 86], [59]) :: (some 88, [87, 86], [60, 59]) :: (some 89, [6, 86], [59]) :: (some 90, [89, 86], [62, 59]) :: (some 91, [88, 90, 86], [61, 63, 59]) :: (some 92, [86, 91], [59, 64]) :: (some 93, [92], [65, 59]) :: (some 94, [5, 93], [66]) :: (some 95, [94, 93], [67, 66]) :: (some 96, [6, 93], [66]) :: (some 97, [96, 93], [69, 66]) :: (some 98, [95, 97, 93], [68, 70, 66]) :: (some 99, [93, 98], [66, 71]) :: (some 100, [99], [72, 66]) :: (some 101, [5, 100], [73]) :: (some 102, [101, 100], [74, 73]) :: (some 103, [6, 100], [73]) :: (some 104, [103, 100], [76, 73]) :: (some 105, [102, 104, 100], [75, 77, 73]) :: (some 106, [100, 105], [73, 78]) :: (some 107, [106], [79, 73]) :: (some 108, [5, 107], [80]) :: (some 109, [108, 107], [81, 80]) :: (some 110, [6, 107], [80]) :: (some 111, [110, 107], [83, 80]) :: (some 112, [109, 111, 107], [82, 84, 80, 80]) :: (some 113, [107, 112], [80, 85]) :: (some 114, [113], [86, 85]) :: (some 115, [5, 114], [87]) :: (some 116, [115, 114], [88, 87]) :: (some 117, [116, 114], [89, 87]) :: (some 118, [117, 114], [90, 87]) :: (some 119, [6, 114], [87]) :: (some 120, [119, 114], [92, 87]) :: (some 121, [120, 114], [93, 87]) :: (some 122, [121, 114], [94, 87]) :: (some 123, [118, 122, 114], [91, 95, 87]) :: (some 124, [114, 123], [87, 96]) :: (some 4, [124], (97 :: 87 :: 0 :: 1 :: 2 :: 3 :: 4 :: 5 :: 6 :: 7 :: 8 :: 9 :: 10 :: 11 :: 12 :: 13 :: 14 :: 15 :: 16 :: 17 :: 18 :: 19 :: 20 :: 21 :: 22 :: 23 :: 24 :: 25 :: 26 :: 27 :: 28 :: 29 :: 30 :: 31 :: 32 :: 33 :: 34 :: 35 :: 36 :: 37 :: 38 :: 39 :: 40 :: 41 :: 42 :: 43 :: 44 :: 45 :: 46 :: 47 :: 48 :: 49 :: 50 :: 51 :: 52 :: 53 :: 54 :: 55 :: 56 :: 57 :: 58 :: 59 :: 60 :: 61 :: 62 :: 63 :: 64 :: 65 :: 66 :: 67 :: 68 :: 69 :: 70 :: 71 :: 72 :: 73 :: 74 :: 75 :: 76 :: 77 :: 78 :: 79 :: 80 :: 81 :: 82 :: 83 :: 84 :: 85 :: 86 :: 87 :: 88 :: 89 :: 90 :: 91 :: 92 :: 93 :: 94 :: 95 :: 96 :: 97 :: [])) :: []) (by kernel_rfl) (by kernel_rfl) (by kernel_rfl) (by kernel_rfl) ?_
        dsimp only [List.append]
        as_aux_lemma =>
          (iterate 10 (try go_big_quiet_step (((go_at_call 60; exact quiet_eq (scars16_nil _ _ _ _ _))))))
          as_aux_lemma =>
            (iterate 4 (try go_big_quiet_step (((go_at_call 60; exact quiet_eq (scars16_nil _ _ _ _ _))))))
            as_aux_lemma =>
              (iterate 4 (try go_big_quiet_step (((go_at_call 60; exact quiet_eq (scars16_nil _ _ _ _ _))))))
              as_aux_lemma =>
                (iterate 1 (try go_big_quiet_step (((go_at_call 60; exact quiet_eq (scars16_nil _ _ _ _ _))))))
                as_aux_lemma =>
                  (iterate 12 (try go_big_quiet_step (((go_at_call 60; exact quiet_eq (scars16_nil _ _ _ _ _))))))
                  as_aux_lemma =>
                    (iterate 25 (try go_big_quiet_step (((go_at_call 60; exact quiet_eq (scars16_nil _ _ _ _ _))))))
                    as_aux_lemma =>
                      repeat (go_big_quiet_step (((go_at_call 60; exact quiet_eq (scars16_nil _ _ _ _ _)))))
                      skip
                      refine wpQuiet_nil ?_
                      intro _ hw'
                      obtain ⟨nq, hw''⟩ := hw'
                      subst hw''
                      go_wp2_with fail
                      go_ret
                      exact ⟨rfl, ⟨hbel.os, hbel.tape, hbel.output, hbel.size, hbel.block⟩⟩
end Go.Proofs.Ytfahmfaakjnpcaa
