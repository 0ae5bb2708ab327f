/-
  What the functions of package 'slices' at []int compute here, each as one contract over the translated program. Conditions: a slice argument reads as a list of ints; Delete and Reverse: in a row of the caller's own.
-/
import Derived.Test.YtfjhommmplencaaLaws
import Derived.Deep.RegionLaw
import Derived.Lib.SliceRun
namespace Go.Proofs.Ytfjhommmplencaa
open Go.RowKit

def setAt (cur : Array Value) : Nat → List Value → Array Value
  | _, [] => cur
  | o, v :: r => setAt (cur.setIfInBounds o v) (o + 1) r
theorem size_setAt : ∀ (vs : List Value) (o : Nat) (cur : Array Value), (setAt cur o vs).size = cur.size
  | [], _, _ => rfl
  | v :: r, o, cur => by show (setAt (cur.setIfInBounds o v) (o + 1) r).size = _; rw [size_setAt r]; simp
theorem get_setAt : ∀ (vs : List Value) (o : Nat) (cur : Array Value) (i : Nat), (setAt cur o vs)[i]? = if o ≤ i ∧ i < o + vs.length ∧ i < cur.size then vs[i - o]? else cur[i]?
  | [], o, cur, i => by rw [if_neg (by simp; omega)]; rfl
  | v :: r, o, cur, i => by
    show (setAt (cur.setIfInBounds o v) (o + 1) r)[i]? = _
    rw [get_setAt r]
    simp only [Array.size_setIfInBounds, List.length_cons]
    by_cases h1 : o + 1 ≤ i ∧ i < o + 1 + r.length ∧ i < cur.size
    · rw [if_pos h1, if_pos (by omega), show i - o = (i - (o + 1)) + 1 by omega, List.getElem?_cons_succ]
    · rw [if_neg h1]
      by_cases h2 : i = o
      · subst h2
        by_cases h3 : i < cur.size
        · rw [if_pos (by omega)]; simp [h3]
        · rw [if_neg (by omega)]; simp [h3]
      · rw [if_neg (by omega), Array.getElem?_setIfInBounds_ne (by omega)]
theorem heap_setCells (g : Nat) {e : TypeId} {fr : Nat × Nat} : ∀ (vs : List Value) (o : Nat) (w : World) (cur : Array Value), w.heap[g]? = some (.cells cur e fr) → (w.setCells g o vs).heap[g]? = some (.cells (setAt cur o vs) e fr)
  | [], _, _, _, h => h
  | v :: r, o, w, cur, h => by
    refine heap_setCells g r (o + 1) _ (cur.setIfInBounds o v) ?_
    simp [World.setCell, Array.getElem?_modify, h]
theorem grown_setCells (g : Nat) : ∀ (vs : List Value) (o : Nat) (w : World), w.grownBy (w.setCells g o vs) (some g)
  | [], _, w => World.grownBy.refl w _
  | v :: r, o, w => by
    have h1 := grown_setCells g r (o + 1) (w.setCell ⟨g, o, none⟩ v)
    have es : (w.setCell ⟨g, o, none⟩ v).heap.size = w.heap.size := by simp [World.setCell]
    refine ⟨h1.os, h1.tape, h1.output, Nat.le_trans (Nat.le_of_eq es.symm) h1.size, fun k hk hne => ?_⟩
    rw [show (w.setCells g o (v :: r)).heap[k]? = ((w.setCell ⟨g, o, none⟩ v).setCells g (o + 1) r).heap[k]? from rfl, h1.block k (by rw [es]; exact hk) hne]
    exact Below.heap_setCell w _ _ k (fun e => hne (by rw [e]))


/-- The place of a number, -1 if there is none. -/
def placeOf (l : List Int) (x : Int) : Int := match l.findIdx? (fun y => y == x) with | some i => i | none => -1
theorem placeOf_hit {l : List Int} {x : Int} {k : Nat} (hk : l[k]? = some x) (hp : x ∉ l.take k) : placeOf l x = k := by
  have hkl := (List.getElem?_eq_some_iff.1 hk).1
  have : l.findIdx? (fun y => y == x) = some k := by
    rw [List.findIdx?_eq_some_iff_getElem]
    refine ⟨hkl, by simpa using (List.getElem?_eq_some_iff.1 hk).2, fun j hj => ?_⟩
    simp only [Bool.not_eq_true, beq_eq_false_iff_ne]
    intro e
    exact hp (by rw [← e]; exact List.mem_take_iff_getElem.2 ⟨j, by omega, rfl⟩)
  unfold placeOf
  rw [this]
theorem placeOf_miss {l : List Int} {x : Int} (hp : x ∉ l) : placeOf l x = -1 := by
  have : l.findIdx? (fun y => y == x) = none := by
    rw [List.findIdx?_eq_none_iff]
    intro y hy
    simp only [beq_eq_false_iff_ne]
    rintro rfl
    exact hp hy
  unfold placeOf
  rw [this]

set_option maxHeartbeats 400000 in
theorem IndexI_any (A : Option Addr) (n c B : Nat) (l : List Int) (x : Int) (w : World) (hl : Ints w B A n l) (hn : n ≤ 100000) :
    Calls Try.prog 38 #[.slice A n c, .int .i64 x] w fun e w' => e = .returned (.int .i64 (placeOf l x)) ∧ w = w' := by
  have HL := Lib.hid hl.len
  go_enter Try.func38, Try.ntmps38
  go_wp2
  go_loop [8] (fun s8 => ∃ k : Nat, k ≤ n ∧ s8 = .int .i64 k ∧ Hid (x ∉ l.take k)) (fun s8 => n - (intOf s8).toNat)
  case atStart => exact ⟨0, Nat.zero_le _, rfl, by show _ ∉ _; simp⟩
  case round =>
    obtain ⟨k, hk, rfl, hno⟩ := hrel
    by_cases hlt : k < n
    · obtain ⟨b, off, y, rfl, hbb, hy, hc⟩ := hl.at_ hlt
      by_cases hxy : x = y
      · subst hxy
        have hb0 : (x == x) = true := by simp
        have hres := placeOf_hit hy.out hno.out
        have HR := Lib.hid hres
        clear hres
        go_wp2
        go_ret
        exact ⟨ret_int HR.out.symm, rfl⟩
      · have hb0 : (x == y) = false := by simpa using hxy
        have hno2 : Hid (x ∉ l.take (k + 1)) := by
          show x ∉ _
          rw [take_succ_of hy.out]
          simp only [List.mem_append, List.mem_singleton, not_or]
          exact ⟨hno.out, hxy⟩
        have HX := Lib.hid hxy
        clear hxy
        go_wp2
        go_round
        case rel => exact ⟨k + 1, by omega, by go_num, hno2⟩
        case measure => simp [intOf]; omega
    · have hres : placeOf l x = -1 := placeOf_miss (by
        have := hno.out
        rwa [List.take_of_length_le (by rw [HL.out]; omega)] at this)
      have HR := Lib.hid hres
      clear hres
      go_wp2
      go_ret
      exact ⟨ret_int HR.out.symm, rfl⟩

def sameL (a b : List Int) : Bool := decide (a = b)

end Go.Proofs.Ytfjhommmplencaa
