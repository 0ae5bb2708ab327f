/-
  What the functions of package 'slices' at []int compute here, each as one contract over the translated program. Conditions: a slice argument reads as a list of ints; Delete and Reverse: in a row of the caller's own.
-/
import Derived.Test.YthjanhfjehccoaaLaws
import Derived.Deep.RegionLaw
import Derived.Lib.SliceRun
namespace Go.Proofs.Ythjanhfjehccoaa
set_option linter.unusedVariables false
set_option linter.unusedSimpArgs false
open Go.RowKit

def setAt (cur : Array Value) : Nat → List Value → Array Value
  | _, [] => cur
  | o, v :: r => setAt (cur.setIfInBounds o v) (o + 1) r
theorem size_setAt : ∀ (vs : List Value) (o : Nat) (cur : Array Value), (setAt cur o vs).size = cur.size
  | [], _, _ => rfl
  | v :: r, o, cur => by show (setAt (cur.setIfInBounds o v) (o + 1) r).size = _; rw [size_setAt r]; simp
theorem get_setAt : ∀ (vs : List Value) (o : Nat) (cur : Array Value) (i : Nat), (setAt cur o vs)[i]? = if o ≤ i ∧ i < o + vs.length ∧ i < cur.size then vs[i - o]? else cur[i]?
  | [], o, cur, i => by rw [if_neg (by simp; omega)]; rfl
  | v :: r, o, cur, i => by
    show (setAt (cur.setIfInBounds o v) (o + 1) r)[i]? = _
    rw [get_setAt r]
    simp only [Array.size_setIfInBounds, List.length_cons]
    by_cases h1 : o + 1 ≤ i ∧ i < o + 1 + r.length ∧ i < cur.size
    · rw [if_pos h1, if_pos (by omega), show i - o = (i - (o + 1)) + 1 by omega, List.getElem?_cons_succ]
    · rw [if_neg h1]
      by_cases h2 : i = o
      · subst h2
        by_cases h3 : i < cur.size
        · rw [if_pos (by omega)]; simp [h3]
        · rw [if_neg (by omega)]; simp [h3]
      · rw [if_neg (by omega), Array.getElem?_setIfInBounds_ne (by omega)]
theorem heap_setCells (g : Nat) {e : TypeId} {fr : Nat × Nat} : ∀ (vs : List Value) (o : Nat) (w : World) (cur : Array Value), w.heap[g]? = some (.cells cur e fr) → (w.setCells g o vs).heap[g]? = some (.cells (setAt cur o vs) e fr)
  | [], _, _, _, h => h
  | v :: r, o, w, cur, h => by
    refine heap_setCells g r (o + 1) _ (cur.setIfInBounds o v) ?_
    simp [World.setCell, Array.getElem?_modify, h]
theorem grown_setCells (g : Nat) : ∀ (vs : List Value) (o : Nat) (w : World), w.grownBy (w.setCells g o vs) (some g)
  | [], _, w => World.grownBy.refl w _
  | v :: r, o, w => by
    have h1 := grown_setCells g r (o + 1) (w.setCell ⟨g, o, none⟩ v)
    have es : (w.setCell ⟨g, o, none⟩ v).heap.size = w.heap.size := by simp [World.setCell]
    refine ⟨h1.os, h1.tape, h1.output, Nat.le_trans (Nat.le_of_eq es.symm) h1.size, fun k hk hne => ?_⟩
    rw [show (w.setCells g o (v :: r)).heap[k]? = ((w.setCell ⟨g, o, none⟩ v).setCells g (o + 1) r).heap[k]? from rfl, h1.block k (by rw [es]; exact hk) hne]
    exact Below.heap_setCell w _ _ k (fun e => hne (by rw [e]))

set_option maxHeartbeats 400000 in
theorem CloneI_any (A : Option Addr) (n c B : Nat) (l : List Int) (w : World) (hl : Ints w B A n l) (hn : n ≤ 100000) :
    Calls Try.prog 71 #[.slice A n c] w fun e w' => ∃ A' c', e = .returned (.slice A' n c') ∧ OwI w' w.heap.size 3 A' n c' l ∧ Below w.heap.size w w' := by
  have hq := fun wx => Lib.run_eql_slice_nil (P := Try.prog) wx 25 3 A n c 0 0 Try.underlying25
  rcases A with _ | a
  · have hn0 : n = 0 := by
      rcases Nat.eq_zero_or_pos n with h | h
      · exact h
      · obtain ⟨b, off, e, _⟩ := hl.2 h (by omega)
        cases e
    have hl0 : l = [] := List.eq_nil_of_length_eq_zero (by rw [hl.len]; exact hn0)
    subst hn0 hl0
    go_enter Try.func71, Try.ntmps71
    go_wp2
    go_ret
    exact ⟨none, 0, rfl, OwI.nil_ _ _ _ _, Below.refl _ _⟩
  · rcases Nat.eq_zero_or_pos n with h0 | h0
    · subst h0
      have hl0 : l = [] := List.eq_nil_of_length_eq_zero hl.len
      subst hl0
      go_enter Try.func71, Try.ntmps71
      go_wp2_with (at_builtin; refine wpList_appI _ rfl (.tmp 5) (.tmp 6) rfl w.heap.size _ _ _ _ rfl (OwI.nil_ _ _ _ _) B _ _ _ [] rfl (Ints.nil_ _ _ _) (by omega) (by simp) ?_; intro A2 c2 w2 ho2 hg2 hr2)
      go_ret
      exact ⟨A2, c2, rfl, ho2, (Below.new_ w _).grown hg2 (by simp) (by simp [rowOf])⟩
    · obtain ⟨b, off, ha, _, hcells⟩ := hl.2 h0 (by omega)
      obtain rfl : a = ⟨b, off, none⟩ := by injection ha
      have hlt : b < w.heap.size := by
        obtain ⟨b', off', x, ha', _, _, hc⟩ := hl.at_ h0
        injection ha' with ha'
        injection ha' with e1 e2
        subst e1
        exact block_lt_of_cell hc
      have hl2 : Ints w w.heap.size (some ⟨b, off, none⟩) n l := ⟨hl.1, fun _ _ => ⟨b, off, rfl, hlt, hcells⟩⟩
      clear ha hcells
      go_enter Try.func71, Try.ntmps71
      go_wp2_with (at_builtin; refine wpList_appI _ rfl (.tmp 5) (.tmp 6) rfl w.heap.size _ _ _ _ rfl (OwI.nil_ _ _ _ _) w.heap.size _ _ _ l rfl (hl2.alloc (Nat.le_refl _) _) (by omega) (by simp) ?_; intro A2 c2 w2 ho2 hg2 hr2)
      go_ret
      exact ⟨A2, c2, by simp, by simpa using ho2, (Below.new_ w _).grown hg2 (by simp) (by simp [rowOf])⟩

/-- The place of a number, -1 if there is none. -/
def placeOf (l : List Int) (x : Int) : Int := match l.findIdx? (fun y => y == x) with | some i => i | none => -1
theorem placeOf_hit {l : List Int} {x : Int} {k : Nat} (hk : l[k]? = some x) (hp : x ∉ l.take k) : placeOf l x = k := by
  have hkl := (List.getElem?_eq_some_iff.1 hk).1
  have : l.findIdx? (fun y => y == x) = some k := by
    rw [List.findIdx?_eq_some_iff_getElem]
    refine ⟨hkl, by simpa using (List.getElem?_eq_some_iff.1 hk).2, fun j hj => ?_⟩
    simp only [Bool.not_eq_true, beq_eq_false_iff_ne]
    intro e
    exact hp (by rw [← e]; exact List.mem_take_iff_getElem.2 ⟨j, by omega, rfl⟩)
  unfold placeOf
  rw [this]
theorem placeOf_miss {l : List Int} {x : Int} (hp : x ∉ l) : placeOf l x = -1 := by
  have : l.findIdx? (fun y => y == x) = none := by
    rw [List.findIdx?_eq_none_iff]
    intro y hy
    simp only [beq_eq_false_iff_ne]
    rintro rfl
    exact hp hy
  unfold placeOf
  rw [this]

set_option maxHeartbeats 400000 in
theorem IndexI_any (A : Option Addr) (n c B : Nat) (l : List Int) (x : Int) (w : World) (hl : Ints w B A n l) (hn : n ≤ 100000) :
    Calls Try.prog 69 #[.slice A n c, .int .i64 x] w fun e w' => e = .returned (.int .i64 (placeOf l x)) ∧ w = w' := by
  have HL := Lib.hid hl.len
  go_enter Try.func69, Try.ntmps69
  go_wp2
  go_loop [8] (fun s8 => ∃ k : Nat, k ≤ n ∧ s8 = .int .i64 k ∧ Hid (x ∉ l.take k)) (fun s8 => n - (intOf s8).toNat)
  case atStart => exact ⟨0, Nat.zero_le _, rfl, by show _ ∉ _; simp⟩
  case round =>
    obtain ⟨k, hk, rfl, hno⟩ := hrel
    by_cases hlt : k < n
    · obtain ⟨b, off, y, rfl, hbb, hy, hc⟩ := hl.at_ hlt
      by_cases hxy : x = y
      · subst hxy
        have hb0 : (x == x) = true := by simp
        have hres := placeOf_hit hy.out hno.out
        have HR := Lib.hid hres
        clear hres
        go_wp2
        go_ret
        exact ⟨ret_int HR.out.symm, rfl⟩
      · have hb0 : (x == y) = false := by simpa using hxy
        have hno2 : Hid (x ∉ l.take (k + 1)) := by
          show x ∉ _
          rw [take_succ_of hy.out]
          simp only [List.mem_append, List.mem_singleton, not_or]
          exact ⟨hno.out, hxy⟩
        have HX := Lib.hid hxy
        clear hxy
        go_wp2
        go_round
        case rel => exact ⟨k + 1, by omega, by go_num, hno2⟩
        case measure => simp [intOf]; omega
    · have hres : placeOf l x = -1 := placeOf_miss (by
        have := hno.out
        rwa [List.take_of_length_le (by rw [HL.out]; omega)] at this)
      have HR := Lib.hid hres
      clear hres
      go_wp2
      go_ret
      exact ⟨ret_int HR.out.symm, rfl⟩

def sameL (a b : List Int) : Bool := decide (a = b)
set_option maxHeartbeats 400000 in
theorem EqualI_any (A1 A2 : Option Addr) (n1 n2 c1 c2 B1 B2 : Nat) (a b : List Int) (w : World) (ha : Ints w B1 A1 n1 a) (hb : Ints w B2 A2 n2 b) (hn1 : n1 ≤ 100000) (hn2 : n2 ≤ 100000) :
    Calls Try.prog 59 #[.slice A1 n1 c1, .slice A2 n2 c2] w fun e w' => e = .returned (.bool (sameL a b)) ∧ Below w.heap.size w w' := by
  have HA := Lib.hid ha.len
  have HB := Lib.hid hb.len
  by_cases hne : n1 = n2
  · subst hne
    go_enter Try.func59, Try.ntmps59
    go_wp2
    go_loopw [13] (fun s5 wr => ∃ (k : Nat), k ≤ n1 ∧ s5 = .int .i64 k ∧ Hid (a.take k = b.take k) ∧ ∃ nq, wr = w.drewN nq) (fun s5 _ => n1 - (intOf s5).toNat)
    case atStart => exact ⟨0, Nat.zero_le _, rfl, rfl, 0, rfl⟩
    case round =>
      obtain ⟨k, hk, rfl, hab, nq, rfl⟩ := hrel
      by_cases hlt : k < n1
      · obtain ⟨b1, o1, x, rfl, _, hx, hc1⟩ := ha.at_ hlt
        obtain ⟨b2, o2, y, rfl, _, hy, hc2⟩ := hb.at_ hlt
        by_cases hxy : x = y
        · have hb0 : (x != y) = false := by simpa using hxy
          have hs : Hid (a.take (k + 1) = b.take (k + 1)) := by show _ = _; rw [take_succ_of hx.out, take_succ_of hy.out, hab.out, hxy]
          have HX := Lib.hid hxy
          clear hxy
          go_wp2
          go_quiet (fail)
          go_wp2
          go_roundw
          case rel => exact ⟨k + 1, by omega, by go_num, hs, _, rfl⟩
          case measure => simp [intOf]; omega
        · have hb0 : (x != y) = true := by simpa using hxy
          have hs : sameL a b = false := by
            simp only [sameL, decide_eq_false_iff_not]
            intro e
            have h1 := hx.out
            rw [e, hy.out] at h1
            injection h1 with h1
            exact hxy h1.symm
          have HS := Lib.hid hs
          have HX := Lib.hid hxy
          clear hxy hs
          go_wp2
          go_quiet (fail)
          go_wp2
          go_ret
          exact ⟨ret_bool HS.out.symm, ⟨rfl, rfl, rfl, Nat.le_refl _, fun _ _ => rfl⟩⟩
      · have hs : sameL a b = true := by
          have h := hab.out
          rw [List.take_of_length_le (by rw [HA.out]; omega), List.take_of_length_le (by rw [HB.out]; omega)] at h
          simp [sameL, h]
        have HS := Lib.hid hs
        clear hs
        go_wp2
        go_ret
        exact ⟨ret_bool HS.out.symm, ⟨rfl, rfl, rfl, Nat.le_refl _, fun _ _ => rfl⟩⟩
  · have hd : ((n1 : Int) != (n2 : Int)) = true := by simp; omega
    have hs : sameL a b = false := by
      simp only [sameL, decide_eq_false_iff_not]
      intro e
      exact hne (by rw [← HA.out, ← HB.out, e])
    have HS := Lib.hid hs
    have HN := Lib.hid hne
    clear hs hne
    go_enter Try.func59, Try.ntmps59
    go_wp2
    go_ret
    exact ⟨ret_bool HS.out.symm, Below.refl _ _⟩

end Go.Proofs.Ythjanhfjehccoaa
