/-
  What idle.When computes, as a contract over the translated program. Conditions: the row reads as a list of at most 1000 pairs.
-/
import Derived.Test.YtepofpbpolenlaaIdle3
import Derived.Laws.MakeOwn
import Derived.Laws.OwnMore
namespace Go.Proofs.Ytepofpbpolenlaa
open Go.RowKit Go.Shelf

def endsOf (l : List Re) (long : Int) : List Int := l.map fun x => later x.2 [long]
def EndsAt (l : List Re) (long : Int) (n k : Nat) (g : Nat) (wr : World) : Prop := ∃ cur, wr.heap[g]? = some (.cells cur 3 (0, 0)) ∧ cur.size = n ∧ (∀ j, j < k → ∀ x, l[j]? = some x → cur[j]? = some (.int .i64 (later x.2 [long]))) ∧ ∀ j, j < n → ∃ z, cur[j]? = some (.int .i64 z)
theorem EndsAt.step {l : List Re} {long : Int} {n k g : Nat} {wr : World} {cur : Array Value} {x : Re} (hcur : wr.heap[g]? = some (.cells cur 3 (0, 0))) (hcs : cur.size = n) (hdone : ∀ j, j < k → ∀ x, l[j]? = some x → cur[j]? = some (.int .i64 (later x.2 [long])))
    (hall : ∀ j, j < n → ∃ z, cur[j]? = some (.int .i64 z)) (hk : k < n) (hx : l[k]? = some x) : EndsAt l long n (k + 1) g (wr.setCell ⟨g, k, none⟩ (.int .i64 (later x.2 [long]))) := by
  refine ⟨cur.setIfInBounds k (.int .i64 (later x.2 [long])), by simp [World.setCell, Array.getElem?_modify, hcur], by simp [hcs], fun j hj y hy => ?_, fun j hj => ?_⟩
  · by_cases e : k = j
    · subst e
      rw [hx] at hy
      injection hy with hy
      subst hy
      simp [hcs, hk]
    · rw [Array.getElem?_setIfInBounds_ne e]
      exact hdone j (by omega) y hy
  · by_cases e : k = j
    · subst e
      exact ⟨later x.2 [long], by simp [hcs, hk]⟩
    · rw [Array.getElem?_setIfInBounds_ne e]
      exact hall j hj
theorem EndsAt.alloc {l : List Re} {long : Int} {n k g : Nat} {wr : World} (h : EndsAt l long n k g wr) (hg : g < wr.heap.size) (o : Obj) : EndsAt l long n k g (wr.alloc o) := by
  obtain ⟨cur, hcur, r⟩ := h
  exact ⟨cur, (Below.heap_alloc wr o g hg).trans hcur, r⟩
theorem EndsAt.ints {l : List Re} {long : Int} {n g : Nat} {wr : World} (h : EndsAt l long n n g wr) (hl : l.length = n) (hg : g < wr.heap.size) : Ints wr wr.heap.size (some ⟨g, 0, none⟩) n (endsOf l long) := by
  obtain ⟨cur, hcur, hcs, hdone, hall⟩ := h
  refine ⟨by simp [endsOf, hl], fun _ _ => ⟨g, 0, rfl, hg, fun j u hu => ?_⟩⟩
  rw [List.getElem?_map, Option.map_eq_some_iff] at hu
  obtain ⟨y, hy, rfl⟩ := hu
  unfold endsOf at hy
  rw [List.getElem?_map, Option.map_eq_some_iff] at hy
  obtain ⟨x, hx, rfl⟩ := hy
  have hj := (List.getElem?_eq_some_iff.1 hx).1
  rw [cell_of_row wr g (0 + j) cur _ (0, 0) hcur, Nat.zero_add]
  exact hdone j (by omega) x hx
set_option maxHeartbeats 2000000 in
theorem When_any (A : Option Addr) (n c : Nat) (l : List Re) (long : Int) (w : World) (hl : Res w w.heap.size A n l) (hn : n ≤ 1000) :
    Calls Try.prog 15 #[.slice A n c, .int .i64 long] w fun e w' => e = .returned (.tuple #[.int .i64 (firstOf (endsOf l long)).2, .bool (decide (0 < n))]) ∧ Below w.heap.size w w' := by
  have HL := Lib.hid hl.1
  obtain ⟨i0, hi0, hz0, hz1, hz2⟩ := info_parts infoI
  have hmk := run_make (P := Try.prog) w 22 3 i0 (.int .i64 0) Try.underlying22 hi0 hz0 .i64 .i64 n n (by omega) (Int.le_refl _) (by rw [hz2]; omega) (by omega)
  obtain ⟨C, hC⟩ : ∃ C, C = madeCells (Value.int .i64 0).cells ((n : Int).toNat * i0.size) := ⟨_, rfl⟩
  rw [← hC, Int.toNat_natCast] at hmk
  have hCs : C.size = n := by rw [hC, size_madeCells, hz1]; simp
  have hCz : ∀ j, j < n → ∃ z, C[j]? = some (.int .i64 z) := fun j hj => ⟨0, by
    have h := toList_madeCells_one (.int .i64 0) n
    have e : (n : Int).toNat * i0.size = n := by rw [hz1]; simp
    rw [e] at hC
    subst hC
    rw [← Array.getElem?_toList]
    show (madeCells #[.int .i64 0] n).toList[j]? = _
    rw [h]
    simp [hj]⟩
  have HCS := Lib.hid hCs
  have HCZ := Lib.hid hCz
  clear hC hCs hCz hi0 hz0 hz1 hz2
  go_enter Try.func15, Try.ntmps15
  go_wp2_with fail
  go_loopw [14] (fun s14 wr => ∃ k : Nat, k ≤ n ∧ s14 = .int .i64 k ∧ Hid (EndsAt l long n k w.heap.size wr) ∧ Below w.heap.size w wr ∧ w.heap.size < wr.heap.size) (fun s14 _ => n - (intOf s14).toNat)
  case atStart => exact ⟨0, Nat.zero_le _, rfl, ⟨C, heap_alloc_new w _, HCS.out, fun j hj => absurd hj (Nat.not_lt_zero _), HCZ.out⟩, Below.new_ _ _, by simp⟩
  case round =>
    clear hmk HCS HCZ
    obtain ⟨k, hk, rfl, hE, hb, hsz⟩ := hrel
    by_cases hlt : k < n
    · obtain ⟨b, off, x, rfl, hbb, hx, hc1, hc2⟩ := Res.cells (hl.below hb) hlt
      obtain ⟨cur, hcur, hcs, hdone, hall⟩ := hE.out
      obtain ⟨z, hz⟩ := hall k hlt
      have hca : wr.cell? ⟨w.heap.size, k, none⟩ = some (.int .i64 z) := by rw [cell_of_row wr _ k cur _ (0, 0) hcur]; exact hz
      have hfa : wr.frozen? ⟨w.heap.size, k, none⟩ = false := by simp [World.frozen?, hcur]
      have HCUR := Lib.hid hcur
      have HDONE := Lib.hid hdone
      have HALL := Lib.hid hall
      have HCS := Lib.hid hcs
      clear hcur hcs hdone hall hE hz
      go_wp2_with fail
      refine (Later_any _ _ _ _ _ [long] _ (Ints.at1_ _ _ long _ (by first | omega | (simp; done) | (simp; omega))) (by omega)).mono ?_
      rintro e w' ⟨rfl, rfl⟩
      go_wp2_with fail
      go_roundw
      case rel => exact ⟨k + 1, by omega, by go_num, ((EndsAt.step HCUR.out HCS.out HDONE.out HALL.out hlt hx.out).alloc (by simpa using hsz) _).alloc (by simp; omega) _, ((hb.setCell (p := ⟨w.heap.size, k, none⟩) (Nat.le_refl _) _).alloc (by simpa using hb.size) _).alloc (by have := hb.size; simp; omega) _, by simp; omega⟩
      case measure => simp [intOf]; omega
    · obtain rfl : k = n := by omega
      have hi := hE.out.ints HL.out hsz
      go_wp2_with fail
      refine (First_any _ _ _ _ _ _ hi (by omega)).mono ?_
      rintro e w' ⟨rfl, rfl⟩
      have hd : decide ((0 : Int) < (k : Int)) = decide (0 < k) := by simp
      have HD := Lib.hid hd
      clear hd
      go_wp2_with fail
      go_ret2
      exact ⟨by simp, hb⟩
end Go.Proofs.Ytepofpbpolenlaa
