/-
  What a pool's out computes; a pool's row stored to. Conditions: rows of at most 900.
-/
import Derived.Test.YthjanhfjehccoaaPoolOut
import Derived.Test.YthjanhfjehccoaaAppFull
namespace Go.Proofs.Ythjanhfjehccoaa
set_option linter.unusedVariables false
set_option linter.unusedSimpArgs false
open Go.RowKit

/-- A cell of a pool's row stored to: its replies and what it shuts stay where they are. -/
theorem PlIs.store [Inhabited Ex] {base g : Nat} {w : World} {x y : Pol} {a b : PlA} (h : PlIs base w g x a) (i : Nat) (v : Value) (hy : (plCells x a).setIfInBounds i v = plCells y b) (hrep : y.p.rep = x.p.rep) (hsh : y.p.shut = x.p.shut)
    (hra : b.rA = a.rA) (hrc : b.rc = a.rc) (hsa : b.sA = a.sA) (hsc : b.sc = a.sc) (hl : Stay (fun q => q ∉ plOwn g a) w (PlLists y b)) (hc : PlCaps y b) :
    PlIs base (w.setCell ⟨g, i, none⟩ v) g y b ∧ Below base w (w.setCell ⟨g, i, none⟩ v) ∧ Carry (plOwn g a) (plOwn g b) w (w.setCell ⟨g, i, none⟩ v) := by
  have hgr : rowOf a.rA a.rc ≠ some g := ow_off h.rep.2 h.row (by decide)
  have hgs : rowOf a.sA a.sc ≠ some g := ow_off h.sh h.row (by decide)
  have hown : plOwn g b = plOwn g a := by unfold plOwn; rw [hra, hrc, hsa, hsc]
  refine ⟨⟨h.row.set i v hy, ?_, ?_, ?_, by rw [hrep, hsh]; exact h.few, h.gb, hc, h.xlt⟩, (Below.refl _ _).setCell (p := ⟨g, i, none⟩) h.gb v, ?_⟩
  · rw [hra, hrc, hrep]
    exact ⟨h.rep.1, Ow.set h.rep.2 (fun q hq => by rintro rfl; exact hgr hq) _⟩
  · rw [hsa, hsc, hsh]
    exact Ow.set h.sh (fun q hq => by rintro rfl; exact hgs hq) _
  · rw [hown]
    refine hl.step (by simp [World.setCell]) fun q _ hq => Below.heap_setCell _ _ _ _ ?_
    show q ≠ g
    rintro rfl
    exact hq (by unfold plOwn; simp)
  · rw [hown]
    refine ⟨by simp [World.setCell], fun _ hb => .inl hb, fun q _ hq => Below.heap_setCell _ _ _ _ ?_⟩
    show q ≠ g
    rintro rfl
    exact hq (by unfold plOwn; simp)
/-- A row of its own that a pool does not write reads as it does from now on. -/
theorem stay_sl {w : World} {base k n c q : Nat} {e : TypeId} {A : Option Addr} {xs : List Value} {own : List Nat} (h : Ow w base e k A n c xs) (hq : rowOf A c = some q) (hno : q ∉ own) : Stay (fun b => b ∉ own) w (fun w'' => Sl w'' w''.heap.size k A n xs) :=
  fun w'' _ hb => Ow.sl (Ow.block h fun g hg => by
    rw [hq] at hg
    injection hg with hg
    subst hg
    exact hb _ (Ow.row h _ hq).2 hno)
theorem own_lt [Inhabited Ex] {base g : Nat} {w : World} {x : Pol} {a : PlA} (h : PlIs base w g x a) : ∀ q ∈ plOwn g a, q < w.heap.size := by
  intro q hq
  unfold plOwn at hq
  simp only [List.mem_cons, List.mem_append, Option.mem_toList, List.not_mem_nil, or_false] at hq
  have hlt := h.row.lt
  rcases hq with rfl | hq | hq | hq
  · exact h.row.lt
  · exact (Ow.row h.rep.2 q hq).2
  · exact (Ow.row h.sh q hq).2
  · have hgb := h.gb
    rcases hq with hq | hq | hq
    · omega
    · omega
    · have := h.xlt _ hq
      omega
set_option maxRecDepth 100000 in
set_option maxHeartbeats 4000000 in
theorem out_any [Inhabited Ex] (base g : Nat) (x : Pol) (a : PlA) (who sock : Int) (w : World) (h : PlIs base w g x a) (hn : x.p.rep.length ≤ 900) (ho : x.i.out.length ≤ 1000) :
    Calls Try.prog 65 #[.pointer (some ⟨g, 0, none⟩), .int .i64 who, .int .i64 sock] w fun en w' => PlPost base g a (x.outs who sock) w en w' := by
  have c10 : w.cell? ⟨g, 10, none⟩ = some (.slice a.oA x.i.out.length a.oc) := h.row.cell rfl
  go_enter Try.func65, Try.ntmps65
  go_wp2_with fail
  refine (ClipI_any a.oA x.i.out.length a.oc _ h.caps.2.1.1 h.caps.2.1.2 (by omega)).mono ?_
  rintro e w1 ⟨rfl, rfl⟩
  have hb1 := Below.new_ w (.cells #[.int .i64 sock] 3)
  have hl1 : Ints (w.alloc (.cells #[.int .i64 sock] 3)) (w.heap.size + 1) (some ⟨w.heap.size, 0, none⟩) 1 [sock] := Ints.new1 w sock 3
  have h1 := h.below hb1
  have hout1 := h1.lists.at_.2.1
  clear c10
  go_upto_region 1 with (at_builtin; refine wpList_appFullI _ rfl (.tmp 12) (.tmp 14) rfl a.oA x.i.out.length _ x.i.out rfl hout1 (w.heap.size + 1) (some ⟨w.heap.size, 0, none⟩) 1 1 [sock] rfl hl1 (by omega) (by omega) ?_; intro A' c' w2 ho2 hg2 hr2; have hrow2 : PlRow w2 g x a := (hg2.block g (Nat.lt_of_lt_of_le h.row.lt hb1.size) (by simp)).trans h1.row; have f10 := hrow2.free 10; have d10 := hrow2.cell (i := 10) rfl)
  have hbase : base ≤ w.heap.size := Nat.le_trans h.gb (Nat.le_of_lt h.row.lt)
  have hb2 : Below (w.alloc (.cells #[.int .i64 sock] 3)).heap.size (w.alloc (.cells #[.int .i64 sock] 3)) w2 := ⟨hg2.os, hg2.tape, hg2.output, hg2.size, fun b hb => hg2.block b hb (by simp)⟩
  have h2 := h1.below hb2
  have hc2 : Carry (plOwn g a) (plOwn g a) w w2 := (carry_below hb1).trans (carry_below hb2)
  have hlists : Stay (fun q => q ∉ plOwn g a) w2 (PlLists { x with i := { x.i with out := x.i.out ++ [sock] } } { a with oA := A', oc := c' }) := by
    intro w'' hs hb
    have old := h2.lists w'' hs hb
    have new := stay_sl ho2 hr2 (fun hq => by have := own_lt h1 _ hq; omega) w'' hs hb
    refine ⟨old.1, ?_, old.2.2.1, old.2.2.2⟩
    show Ints w'' w''.heap.size A' (x.i.out ++ [sock]).length (x.i.out ++ [sock])
    rw [List.length_append]
    exact new
  have hA : A' = none → c' = 0 := fun e => by
    rcases ho2.2.2.2 with h0 | ⟨q, cur, e2, _⟩
    · exact h0
    · rw [e] at e2; cases e2
  obtain ⟨h3, hb3, hc3⟩ := h2.store (y := { x with i := { x.i with out := x.i.out ++ [sock] } }) (b := { a with oA := A', oc := c' }) 10 (.slice A' (x.i.out.length + 1) c') (by unfold plCells; simp) rfl rfl rfl rfl rfl rfl hlists
    ⟨h2.caps.1, ⟨by rw [List.length_append]; exact ho2.2.1, hA⟩, h2.caps.2.2⟩
  clear hlists hA f10 d10 hrow2 hout1 hl1
  go_wp2_with fail
  refine (says_any base g _ _ who sock 0 _ h3 hn).mono ?_
  rintro e w4 ⟨a4, rfl, h4, hb4, hc4⟩
  go_wp2_with fail
  go_end0
  have hbw : Below base w w2 := (hb1.mono hbase).trans (hb2.mono (by have := hb1.size; omega))
  exact ⟨a4, rfl, h4, (hbw.trans hb3).trans hb4, (hc2.trans hc3).trans hc4⟩
end Go.Proofs.Ythjanhfjehccoaa
