/-
  What the functions of package 'pace' (layer 14) compute, each as one contract over the translated program. Conditions: a slice argument reads as a list of records.
-/
import Derived.Test.YtcmgcbkhjdeinaaRows
import Derived.Test.YtcmgcbkhjdeinaaAge
import Derived.Test.YtcmgcbkhjdeinaaLaws
namespace Go.Proofs.Ytcmgcbkhjdeinaa
open Go.RowKit

/-- One of a history: has it failed, which, when. -/
structure Pc where
  fail : Bool
  n : Int
  at_ : Int
def encPc (x : Pc) : List Value := [.bool x.fail, .int .i64 x.n, .int .i64 x.at_]
theorem encPc_len (x : Pc) : (encPc x).length = 3 := rfl
abbrev Pcs (w : World) (B : Nat) (A : Option Addr) (n : Nat) (xs : List Pc) : Prop := Recs encPc 3 w B A n xs
theorem Pcs.cells {w : World} {B : Nat} {A : Option Addr} {n : Nat} {xs : List Pc} (h : Pcs w B A n xs) {i : Nat} (hi : i < n) :
    ∃ b off x, A = some ⟨b, off, none⟩ ∧ b < B ∧ Hid (xs[i]? = some x) ∧ w.cell? ⟨b, off + i * 3, none⟩ = some (.bool x.fail) ∧ w.cell? ⟨b, off + i * 3 + 1, none⟩ = some (.int .i64 x.n) ∧ w.cell? ⟨b, off + i * 3 + 2, none⟩ = some (.int .i64 x.at_) := by
  obtain ⟨b, off, x, e, hb, hx, hc⟩ := Recs.at_ encPc_len (by omega) h hi
  exact ⟨b, off, x, e, hb, hx, hc 0 _ rfl, by have := hc 1 _ rfl; rwa [← Nat.add_assoc] at this, by have := hc 2 _ rfl; rwa [← Nat.add_assoc] at this⟩

theorem Pcs.new1 (w : World) (g : Nat) (hg : g = w.heap.size) (x : Pc) (e : TypeId) : Pcs (w.alloc (.cells #[.bool x.fail, .int .i64 x.n, .int .i64 x.at_] e)) (g + 1) (some ⟨g, 0, none⟩) 1 [x] := Recs.new_at encPc_len w g hg [x] 1 rfl _ rfl e
theorem Pcs.new2 (w : World) (g : Nat) (hg : g = w.heap.size) (x y : Pc) (e : TypeId) : Pcs (w.alloc (.cells #[.bool x.fail, .int .i64 x.n, .int .i64 x.at_, .bool y.fail, .int .i64 y.n, .int .i64 y.at_] e)) (g + 1) (some ⟨g, 0, none⟩) 2 [x, y] := Recs.new_at encPc_len w g hg [x, y] 2 rfl _ rfl e
theorem Pcs.new3 (w : World) (g : Nat) (hg : g = w.heap.size) (x y z : Pc) (e : TypeId) : Pcs (w.alloc (.cells #[.bool x.fail, .int .i64 x.n, .int .i64 x.at_, .bool y.fail, .int .i64 y.n, .int .i64 y.at_, .bool z.fail, .int .i64 z.n, .int .i64 z.at_] e)) (g + 1) (some ⟨g, 0, none⟩) 3 [x, y, z] := Recs.new_at encPc_len w g hg [x, y, z] 3 rfl _ rfl e
/-- A variable that holds a record. -/
def Pc3 (w : World) (g : Nat) (x : Pc) : Prop := w.cell? ⟨g, 0, none⟩ = some (.bool x.fail) ∧ w.cell? ⟨g, 1, none⟩ = some (.int .i64 x.n) ∧ w.cell? ⟨g, 2, none⟩ = some (.int .i64 x.at_) ∧ g < w.heap.size
theorem Pc3.alloc {w : World} {g : Nat} {x : Pc} (h : Pc3 w g x) (o : Obj) : Pc3 (w.alloc o) g x := by
  obtain ⟨h0, h1, h2, h3⟩ := h
  refine ⟨?_, ?_, ?_, by simp; omega⟩ <;> rw [World.cell?_alloc_past _ _ _ h3] <;> assumption
theorem Pc3.below {w w' : World} {g : Nat} {x : Pc} (h : Pc3 w g x) (hb : Below w.heap.size w w') : Pc3 w' g x := by
  obtain ⟨h0, h1, h2, h3⟩ := h
  exact ⟨(hb.cell (p := ⟨g, 0, none⟩) h3).trans h0, (hb.cell (p := ⟨g, 1, none⟩) h3).trans h1, (hb.cell (p := ⟨g, 2, none⟩) h3).trans h2, Nat.lt_of_lt_of_le h3 hb.size⟩
theorem Pc3.new_at (w : World) (g : Nat) (hg : g = w.heap.size) (x : Pc) (e : TypeId) : Pc3 (w.alloc (.cells #[.bool x.fail, .int .i64 x.n, .int .i64 x.at_] e)) g x := by
  subst hg
  exact ⟨by simp, by simp, by simp, by simp⟩

def starts (l : List Pc) : List Int := (l.filter fun x => !x.fail).map (·.at_)

theorem starts_snoc (l : List Pc) (x : Pc) : starts (l ++ [x]) = if x.fail then starts l else starts l ++ [x.at_] := by
  unfold starts
  rw [List.filter_append, List.map_append]
  cases h : x.fail <;> simp [h]

def StartsInv (w : World) (l : List Pc) (n : Nat) (s2 s7 : Value) (wr : World) : Prop :=
  ∃ (k : Nat) (r : List Int) (A' : Option Addr) (c' : Nat), k ≤ n ∧ r.length ≤ k ∧ r = starts (l.take k) ∧ s7 = .int .i64 k ∧ s2 = .slice A' r.length c' ∧ OwI wr w.heap.size 3 A' r.length c' r ∧ Below w.heap.size w wr

set_option maxHeartbeats 400000 in
theorem Starts_any (A : Option Addr) (n c B : Nat) (l : List Pc) (w : World) (hl : Pcs w B A n l) (hB : B ≤ w.heap.size) (hn : n ≤ 100000) :
    Calls Try.prog 10 #[.slice A n c] w fun e w' => ∃ A' c', e = .returned (.slice A' (starts l).length c') ∧ OwI w' w.heap.size 3 A' (starts l).length c' (starts l) ∧ Below w.heap.size w w' := by
  have HL := Lib.hid hl.len
  go_enter Try.func10, Try.ntmps10
  go_wp2
  go_loopw [2, 7] (fun s2 s7 wr => StartsInv w l n s2 s7 wr) (fun _ s7 _ => n - (intOf s7).toNat)
  case atStart => exact ⟨0, [], none, 0, Nat.zero_le _, Nat.le_refl _, rfl, rfl, rfl, OwI.nil_ _ _ _ _, Below.refl _ _⟩
  case round =>
    obtain ⟨k, r, A1, c1, hk, hrk, hr, rfl, rfl, ho, hb⟩ := hrel
    have HR := Lib.hid hr
    clear hr
    by_cases hlt : k < n
    · obtain ⟨b, off, x, rfl, hbb, hx, hc0, hc1, hc2⟩ := Pcs.cells (hl.below' hb hB) hlt
      cases hf : x.fail
      · go_wp2_with (at_builtin; refine wpList_appI _ rfl (.tmp 14) (.tmp 17) rfl w.heap.size _ _ _ _ rfl ((ho.alloc _).alloc _) _ _ _ _ _ rfl (Ints.at1_ _ _ _ _ (by simp)) (by omega) (by have := hb.size; simp; omega) ?_; intro A2 c2 w2 ho2 hg2 hr2)
        go_roundw
        case rel =>
          refine ⟨k + 1, r ++ [x.at_], A2, c2, by omega, by simp; omega, ?_, by go_num, by simp, by simpa using ho2, ?_⟩
          · rw [take_succ_of hx.out, starts_snoc, hf, HR.out]; rfl
          · exact (((hb.alloc hb.size _).alloc (by have := hb.size; simp; omega) _)).grown hg2 (by have := hb.size; simp; omega) (fun g hg => (ho.row g hg).1)
        case measure => simp [intOf]; omega
      · go_wp2
        go_roundw
        case rel =>
          refine ⟨k + 1, r, A1, c1, by omega, by omega, ?_, by go_num, rfl, ho.alloc _, hb.alloc hb.size _⟩
          rw [take_succ_of hx.out, starts_snoc, hf, HR.out]; rfl
        case measure => simp [intOf]; omega
    · go_wp2
      go_ret
      obtain rfl : r = starts l := by rw [HR.out, List.take_of_length_le (by rw [HL.out]; omega)]
      exact ⟨A1, c1, rfl, ho, hb⟩
end Go.Proofs.Ytcmgcbkhjdeinaa
