/-
  What cache.Fresh, Until, Entry, May compute. Conditions: the slice arguments read as lists of at most 1000.
-/
import Derived.Test.YtfahmfaakjnpcaaKn2
import Derived.Laws.MakeOwn
namespace Go.Proofs.Ytfahmfaakjnpcaa
set_option linter.unusedVariables false
set_option linter.unusedSimpArgs false
open Go.RowKit Go.Shelf

set_option maxRecDepth 100000 in
set_option maxHeartbeats 2000000 in
theorem FreshKn_any (A : Option Addr) (n c : Nat) (l : List Kn) (now : Int) (w : World) (hl : Kns w w.heap.size A n l) (hn : n ≤ 1000) :
    Calls Try.prog 51 #[.slice A n c, .int .i64 now] w fun e w' => ∃ A' c', e = .returned (.slice A' (freshK l now).length c') ∧ OwKn w' w.heap.size A' (freshK l now).length c' (freshK l now) ∧ Below w.heap.size w w' := by
  have HL := Lib.hid hl.1
  have eg := eg_lives
  go_enter Try.func51, Try.ntmps51
  go_wp2_with fail
  refine (lives_any _ _).mono ?_
  rintro e w1 ⟨g, rfl, hg, hb1⟩
  have lg := block_lt_of_cell hg
  go_wp2_with fail
  go_loopw [4, 12] (fun s4 s12 wr => ∃ (k m : Nat) (A' : Option Addr) (c' : Nat), k ≤ n ∧ m ≤ k ∧ s12 = .int .i64 k ∧ s4 = .slice A' m c' ∧ OwKn wr w1.heap.size A' m c' (freshK (l.take k) now) ∧ Below w1.heap.size w1 wr) (fun _ s12 _ => n - (intOf s12).toNat)
  case atStart => exact ⟨0, 0, none, 0, Nat.zero_le _, Nat.zero_le _, rfl, rfl, OwR.nil_ _ _ _ _, Below.refl _ _⟩
  case round =>
    obtain ⟨k, m, A1, c1, hk, hm, rfl, rfl, ho, hb⟩ := hrel
    have hbw := hb1.trans (hb.mono hb1.size)
    by_cases hlt : k < n
    · obtain ⟨b, off, x, rfl, hbb, hx, hc0, hc1, hc2, hc3⟩ := Kns.cells (hl.below hbw) hlt
      have hbY := hb.alloc hb.size (.cells #[.string x.1, .string x.2.1, .int .i64 x.2.2.1, .int .i64 x.2.2.2] 110)
      have hcall := livesC_any x g now (wr.alloc (.cells #[.string x.1, .string x.2.1, .int .i64 x.2.2.1, .int .i64 x.2.2.2] 110)) ((hbY.cell (p := ⟨g, 0, none⟩) lg).trans hg)
      have g1 := freshK_snoc now hx.out
      have hox := ho.alloc (.cells #[.string x.1, .string x.2.1, .int .i64 x.2.2.1, .int .i64 x.2.2.2] 110)
      clear ho hb hg
      cases hp : freshB now x
      · rw [hp] at hcall g1
        simp only [Bool.false_eq_true, if_false] at g1
        have HG1 := Lib.hid g1
        clear g1 hp
        go_wp2_with (go_at_fn 73; refine hcall.mono ?_; rintro e w2 ⟨rfl, hb2⟩)
        have hbx := hbY.trans (hb2.mono hbY.size)
        have ho2 := OwR.below hox hb2
        rw [← HG1.out] at ho2
        clear hb2 hcall
        go_roundw
        case rel => exact ⟨k + 1, m, A1, c1, by omega, by omega, by go_num, rfl, ho2, hbx⟩
        case measure => simp [intOf]; omega
      · rw [hp] at hcall g1
        simp only [if_true] at g1
        have HG1 := Lib.hid g1
        clear g1 hp
        go_upto_region 6 with (go_at_fn 73; refine hcall.mono ?_; rintro e w2 ⟨rfl, hb2⟩)
        have hk1 : w2.heap[wr.heap.size]? = some (.cells #[.string x.1, .string x.2.1, .int .i64 x.2.2.1, .int .i64 x.2.2.2] 110 (0, 0)) := (hb2.block wr.heap.size (by simp)).trans (heap_alloc_new wr _)
        obtain ⟨q0, q1, q2, q3⟩ := kn_cells hk1
        have hbx := hbY.trans (hb2.mono hbY.size)
        have ho2 := OwR.below hox hb2
        have hs2 := hbx.size
        clear hcall hb2 hk1 hbw
        go_wp2_with (at_builtin; refine wpList_appKn _ rfl (.tmp 19) (.tmp 21) rfl w1.heap.size _ _ _ _ rfl (ho2.alloc _) _ _ _ _ [x] rfl (Kns.new1 _ _ (by simp) x _) (by omega) (by simp; omega) ?_; intro A3 c3 w3 ho3 hg3 hr3)
        have hbw3 : Below w1.heap.size w1 w3 := (hbx.alloc hbx.size _).grown hg3 (by simp; omega) (fun g hg => (Ow.row ho2.2 g hg).1)
        rw [← HG1.out] at ho3
        clear hg3 hr3 q0 q1 q2 q3
        go_wp2_with fail
        go_roundw
        case rel => exact ⟨k + 1, m + 1, A3, c3, by omega, by omega, by go_num, rfl, ho3, hbw3⟩
        case measure => simp [intOf]; omega
    · obtain rfl : k = n := by omega
      have ht : l.take k = l := List.take_of_length_le (by rw [HL.out]; omega)
      rw [ht] at ho
      have hm' : (freshK l now).length = m := ho.1
      have HM := Lib.hid hm'
      clear ht hm'
      go_wp2_with fail
      go_ret
      exact ⟨A1, c1, by rw [HM.out]; rfl, by rw [HM.out]; exact ⟨ho.1, Ow.rebase ho.2 hb1.size⟩, hbw⟩

def EndsK (l : List Kn) (n k g : Nat) (wr : World) : Prop :=
  ∃ cur : Array Value, wr.heap[g]? = some (.cells cur 3 (0, 0)) ∧ cur.size = n ∧ (∀ j, j < k → ∀ x, l[j]? = some x → cur[j]? = some (.int .i64 x.2.2.2)) ∧ ∀ j, j < n → ∃ z, cur[j]? = some (.int .i64 z)
theorem EndsK.step {l : List Kn} {n k g : Nat} {wr : World} {cur : Array Value} {x : Kn} (h1 : wr.heap[g]? = some (.cells cur 3 (0, 0))) (h2 : cur.size = n) (h3 : ∀ j, j < k → ∀ x, l[j]? = some x → cur[j]? = some (.int .i64 x.2.2.2)) (h4 : ∀ j, j < n → ∃ z, cur[j]? = some (.int .i64 z)) (hk : k < n) (hx : l[k]? = some x) :
    EndsK l n (k + 1) g (wr.setCell ⟨g, k, none⟩ (.int .i64 x.2.2.2)) := by
  refine ⟨cur.setIfInBounds k (.int .i64 x.2.2.2), by simp [World.setCell, Array.getElem?_modify, h1], by simp [h2], fun j hj y hy => ?_, fun j hj => ?_⟩
  · rw [Array.getElem?_setIfInBounds]
    by_cases e : k = j
    · subst e
      rw [hx] at hy
      injection hy with hy
      subst hy
      rw [if_pos rfl, if_pos (by omega)]
    · rw [if_neg e]
      exact h3 j (by omega) y hy
  · rw [Array.getElem?_setIfInBounds]
    by_cases e : k = j
    · rw [if_pos e, if_pos (by omega)]
      exact ⟨_, rfl⟩
    · rw [if_neg e]
      exact h4 j hj
theorem EndsK.alloc {l : List Kn} {n k g : Nat} {wr : World} (h : EndsK l n k g wr) (hg : g < wr.heap.size) (o : Obj) : EndsK l n k g (wr.alloc o) := by
  obtain ⟨cur, hcur, r⟩ := h
  exact ⟨cur, (Below.heap_alloc wr o g hg).trans hcur, r⟩
theorem EndsK.ints {l : List Kn} {n g : Nat} {wr : World} (h : EndsK l n n g wr) (hl : l.length = n) (hg : g < wr.heap.size) : Ints wr wr.heap.size (some ⟨g, 0, none⟩) n (l.map fun k => k.2.2.2) := by
  obtain ⟨cur, hcur, hcs, hdone, hall⟩ := h
  refine ⟨by simp [hl], fun _ _ => ⟨g, 0, rfl, hg, fun j u hu => ?_⟩⟩
  rw [List.getElem?_map, Option.map_eq_some_iff] at hu
  obtain ⟨y, hy, rfl⟩ := hu
  rw [List.getElem?_map, Option.map_eq_some_iff] at hy
  obtain ⟨x, hx, rfl⟩ := hy
  have hj := (List.getElem?_eq_some_iff.1 hx).1
  rw [cell_of_row wr g (0 + j) cur _ (0, 0) hcur, Nat.zero_add]
  exact hdone j (by omega) x hx

/-- A configuration's nine numbers. -/
abbrev Cf := Int × Int × Int × Int × Int × Int × Int × Int × Int
theorem entryK_ok {ttl neg : Int} {name row : ByteArray} {e now : Int} (h : (e == 0) = true) : entryK ttl neg name row e now = (name, row, e, later now [ttl]) := by
  have : e = 0 := by simpa using h
  subst this
  unfold entryK
  rw [if_pos rfl]
theorem entryK_bad {ttl neg : Int} {name row : ByteArray} {e now : Int} (h : (e == 0) = false) : entryK ttl neg name row e now = (name, ⟨#[]⟩, e, later now [neg]) := by
  have : e ≠ 0 := by simpa using h
  unfold entryK
  rw [if_neg this]
set_option maxRecDepth 100000 in
set_option maxHeartbeats 2000000 in
theorem EntryKn_any (cf : Cf) (name row : ByteArray) (er now : Int) (w : World) :
    Calls Try.prog 52 #[.agg #[.int .i64 cf.1, .int .i64 cf.2.1, .int .i64 cf.2.2.1, .int .i64 cf.2.2.2.1, .int .i64 cf.2.2.2.2.1, .int .i64 cf.2.2.2.2.2.1, .int .i64 cf.2.2.2.2.2.2.1, .int .i64 cf.2.2.2.2.2.2.2.1, .int .i64 cf.2.2.2.2.2.2.2.2], .string name, .string row, .int .i64 er, .int .i64 now] w fun e w' => e = .returned (valKn (entryK cf.2.2.2.2.2.2.1 cf.2.2.2.2.2.2.2.1 name row er now)) ∧ Below w.heap.size w w' := by
  cases he : (er == 0)
  · have hE := entryK_bad (ttl := cf.2.2.2.2.2.2.1) (neg := cf.2.2.2.2.2.2.2.1) (name := name) (row := row) (now := now) he
    have HE := Lib.hid hE
    have he2 : (er != 0) = true := by simp [bne, he]
    clear hE
    go_enter Try.func52, Try.ntmps52
    go_wp2_with (go_at_call 67; refine (Later_any _ _ _ _ _ [_] _ (Ints.at1_ _ _ _ _ (by first | omega | (simp; done) | (simp; omega))) (by omega)).mono ?_; rintro e w' ⟨rfl, rfl⟩)
    exact bodyPost_ret (v := valKn (name, ⟨#[]⟩, er, later now [cf.2.2.2.2.2.2.2.1])) (by simp [results, Try.results52, go_sem, valKn]) rfl ⟨by rw [HE.out], (by repeat first | exact Below.refl _ _ | assumption | (refine Below.alloc ?_ (by simp <;> omega) _) | (refine Below.drew ?_))⟩
  · have hE := entryK_ok (ttl := cf.2.2.2.2.2.2.1) (neg := cf.2.2.2.2.2.2.2.1) (name := name) (row := row) (now := now) he
    have HE := Lib.hid hE
    have he2 : (er != 0) = false := by simp [bne, he]
    clear hE
    go_enter Try.func52, Try.ntmps52
    go_wp2_with (go_at_call 67; refine (Later_any _ _ _ _ _ [_] _ (Ints.at1_ _ _ _ _ (by first | omega | (simp; done) | (simp; omega))) (by omega)).mono ?_; rintro e w' ⟨rfl, rfl⟩)
    exact bodyPost_ret (v := valKn (name, row, er, later now [cf.2.2.2.2.2.2.1])) (by simp [results, Try.results52, go_sem, valKn]) rfl ⟨by rw [HE.out], (by repeat first | exact Below.refl _ _ | assumption | (refine Below.alloc ?_ (by simp <;> omega) _) | (refine Below.drew ?_))⟩

/-- The name of the last one of a row; empty: of none. -/
def lastN (last : ByteArray) (l : List Kn) : ByteArray := match l.getLast? with | some k => k.1 | none => last
theorem mayFrom_snoc (x : Kn) : ∀ (l : List Kn) (last : ByteArray), mayFrom last (l ++ [x]) = (mayFrom last l && !badK (lastN last l) x)
  | [], last => by simp [mayFrom, lastN]
  | k :: l, last => by
    have ih := mayFrom_snoc x l k.1
    have e : lastN last (k :: l) = lastN k.1 l := by
      unfold lastN
      rw [List.getLast?_cons]
      cases l.getLast? <;> rfl
    rw [List.cons_append, mayFrom, mayFrom, ih, e, Bool.and_assoc]
theorem mayFrom_pre (b : List Kn) : ∀ (a : List Kn) (last : ByteArray), mayFrom last (a ++ b) = true → mayFrom last a = true
  | [], _, _ => rfl
  | k :: a, last, h => by
    rw [List.cons_append, mayFrom, Bool.and_eq_true] at h
    rw [mayFrom, Bool.and_eq_true]
    exact ⟨h.1, mayFrom_pre b a k.1 h.2⟩
theorem lastN_take {l : List Kn} {k : Nat} {x : Kn} (last : ByteArray) (hx : l[k]? = some x) : lastN last (l.take (k + 1)) = x.1 := by
  unfold lastN
  rw [take_succ_of hx, List.getLast?_append]
  simp
theorem may_false {l : List Kn} {k : Nat} {x : Kn} (hx : l[k]? = some x) (h : badK (lastN ⟨#[]⟩ (l.take k)) x = true) : mayK l = false := by
  cases hm : mayK l with
  | false => rfl
  | true =>
    unfold mayK at hm
    rw [← List.take_append_drop (k + 1) l] at hm
    have h2 := mayFrom_pre _ _ _ hm
    rw [take_succ_of hx, mayFrom_snoc, h] at h2
    simp at h2
theorem may_step {l : List Kn} {k : Nat} {x : Kn} (hx : l[k]? = some x) (hm : mayFrom ⟨#[]⟩ (l.take k) = true) (h : badK (lastN ⟨#[]⟩ (l.take k)) x = false) : mayFrom ⟨#[]⟩ (l.take (k + 1)) = true := by
  rw [take_succ_of hx, mayFrom_snoc, hm, h]; rfl
theorem str_cell {w : World} {g : Nat} {v : Value} {t : TypeId} (h : w.heap[g]? = some (.cells #[v] t (0, 0))) : w.cell? ⟨g, 0, none⟩ = some v ∧ w.frozen? ⟨g, 0, none⟩ = false :=
  ⟨by simp [World.cell?, h], by simp [World.frozen?, h]⟩
theorem str_put {w : World} {g : Nat} {v : Value} {t : TypeId} (u : Value) (h : w.heap[g]? = some (.cells #[v] t (0, 0))) : (w.setCell ⟨g, 0, none⟩ u).heap[g]? = some (.cells #[u] t (0, 0)) := by
  simp [World.setCell, Array.getElem?_modify, h]
end Go.Proofs.Ytfahmfaakjnpcaa
