/-
  What a pool's all computes; cells of a pool laid to constants. Conditions: rows of at most 900.
-/
import Derived.Test.YthjanhfjehccoaaPoolGive2
namespace Go.Proofs.Ythjanhfjehccoaa
set_option linter.unusedVariables false
set_option linter.unusedSimpArgs false
open Go.RowKit

section
variable {base g : Nat} {w : World} {x : Pol} {a : PlA}
theorem PlIs.lineNil [Inhabited Ex] (h : PlIs base w g x a) : PlIs base (w.setCell ⟨g, 11, none⟩ (.slice none 0 0)) g { x with i := { x.i with line := [] } } { a with lA := none, lc := 0 } ∧ Below base w (w.setCell ⟨g, 11, none⟩ (.slice none 0 0)) ∧ Carry (plOwn g a) (plOwn g { a with lA := none, lc := 0 }) w (w.setCell ⟨g, 11, none⟩ (.slice none 0 0)) :=
  h.store 11 _ (by unfold plCells; simp) rfl rfl rfl rfl rfl rfl (fun w'' hs hb => by
    have old := h.lists w'' hs hb
    exact ⟨old.1, old.2.1, Ints.nil_ _ _ _, old.2.2.2⟩) ⟨h.caps.1, h.caps.2.1, ⟨Nat.le_refl _, fun _ => rfl⟩⟩
theorem PlIs.freeNil [Inhabited Ex] (h : PlIs base w g x a) : PlIs base (w.setCell ⟨g, 9, none⟩ (.slice none 0 0)) g { x with i := { x.i with free := [] } } { a with fA := none, fc := 0 } ∧ Below base w (w.setCell ⟨g, 9, none⟩ (.slice none 0 0)) ∧ Carry (plOwn g a) (plOwn g { a with fA := none, fc := 0 }) w (w.setCell ⟨g, 9, none⟩ (.slice none 0 0)) :=
  h.store 9 _ (by unfold plCells; simp) rfl rfl rfl rfl rfl rfl (fun w'' hs hb => by
    have old := h.lists w'' hs hb
    exact ⟨Recs.nil_ _ _ _, old.2.1, old.2.2.1, old.2.2.2⟩) ⟨⟨Nat.le_refl _, fun _ => rfl⟩, h.caps.2⟩
theorem PlIs.outNil [Inhabited Ex] (h : PlIs base w g x a) : PlIs base (w.setCell ⟨g, 10, none⟩ (.slice none 0 0)) g { x with i := { x.i with out := [] } } { a with oA := none, oc := 0 } ∧ Below base w (w.setCell ⟨g, 10, none⟩ (.slice none 0 0)) ∧ Carry (plOwn g a) (plOwn g { a with oA := none, oc := 0 }) w (w.setCell ⟨g, 10, none⟩ (.slice none 0 0)) :=
  h.store 10 _ (by unfold plCells; simp) rfl rfl rfl rfl rfl rfl (fun w'' hs hb => by
    have old := h.lists w'' hs hb
    exact ⟨old.1, Ints.nil_ _ _ _, old.2.2.1, old.2.2.2⟩) ⟨h.caps.1, ⟨Nat.le_refl _, fun _ => rfl⟩, h.caps.2.2⟩
theorem PlIs.setOn [Inhabited Ex] (h : PlIs base w g x a) (v : Bool) : PlIs base (w.setCell ⟨g, 12, none⟩ (.bool v)) g { x with i := { x.i with on := v } } a ∧ Below base w (w.setCell ⟨g, 12, none⟩ (.bool v)) ∧ Carry (plOwn g a) (plOwn g a) w (w.setCell ⟨g, 12, none⟩ (.bool v)) :=
  h.store 12 _ (by unfold plCells; simp) rfl rfl rfl rfl rfl rfl h.lists h.caps
theorem PlIs.setCut [Inhabited Ex] (h : PlIs base w g x a) (v : Bool) : PlIs base (w.setCell ⟨g, 13, none⟩ (.bool v)) g { x with i := { x.i with cut := v } } a ∧ Below base w (w.setCell ⟨g, 13, none⟩ (.bool v)) ∧ Carry (plOwn g a) (plOwn g a) w (w.setCell ⟨g, 13, none⟩ (.bool v)) :=
  h.store 13 _ (by unfold plCells; simp) rfl rfl rfl rfl rfl rfl h.lists h.caps
theorem PlIs.setClosed [Inhabited Ex] (h : PlIs base w g x a) (v : Bool) : PlIs base (w.setCell ⟨g, 14, none⟩ (.bool v)) g { x with i := { x.i with closed := v } } a ∧ Below base w (w.setCell ⟨g, 14, none⟩ (.bool v)) ∧ Carry (plOwn g a) (plOwn g a) w (w.setCell ⟨g, 14, none⟩ (.bool v)) :=
  h.store 14 _ (by unfold plCells; simp) rfl rfl rfl rfl rfl rfl h.lists h.caps
theorem PlIs.setStart [Inhabited Ex] (h : PlIs base w g x a) (v : Bool) : PlIs base (w.setCell ⟨g, 27, none⟩ (.bool v)) g { x with p := { x.p with start := v } } a ∧ Below base w (w.setCell ⟨g, 27, none⟩ (.bool v)) ∧ Carry (plOwn g a) (plOwn g a) w (w.setCell ⟨g, 27, none⟩ (.bool v)) :=
  h.store 27 _ (by unfold plCells; simp) rfl rfl rfl rfl rfl rfl h.lists h.caps
theorem PlIs.setPcut [Inhabited Ex] (h : PlIs base w g x a) (v : Bool) : PlIs base (w.setCell ⟨g, 28, none⟩ (.bool v)) g { x with p := { x.p with cut := v } } a ∧ Below base w (w.setCell ⟨g, 28, none⟩ (.bool v)) ∧ Carry (plOwn g a) (plOwn g a) w (w.setCell ⟨g, 28, none⟩ (.bool v)) :=
  h.store 28 _ (by unfold plCells; simp) rfl rfl rfl rfl rfl rfl h.lists h.caps
end
set_option maxRecDepth 100000 in
set_option maxHeartbeats 4000000 in
theorem all_any [Inhabited Ex] (base g : Nat) (x : Pol) (a : PlA) (e : Int) (w : World) (h : PlIs base w g x a) (hn : x.p.rep.length + x.i.line.length ≤ 900) :
    Calls Try.prog 74 #[.pointer (some ⟨g, 0, none⟩), .int .i64 e] w fun en w' => PlPost base g a (x.all_ e) w en w' := by
  obtain ⟨lA, hlA⟩ : ∃ v, Hid (a.lA = v) := ⟨_, rfl⟩
  obtain ⟨n, hnl⟩ : ∃ n, Hid (x.i.line.length = n) := ⟨_, rfl⟩
  have c11 : w.cell? ⟨g, 11, none⟩ = some (.slice lA n a.lc) := by rw [← hlA.out, ← hnl.out]; exact h.row.cell rfl
  have HL : Stay (fun b => b ∉ plOwn g a) w (fun w'' => Ints w'' w''.heap.size lA n x.i.line) := fun w'' hs hb => by rw [← hlA.out, ← hnl.out]; exact (h.lists w'' hs hb).2.2.1
  rw [hnl.out] at hn
  go_enter Try.func74, Try.ntmps74
  go_wp2_with fail
  go_loopw [12] (fun s12 wr => ∃ (k : Nat) (a' : PlA), k ≤ n ∧ s12 = .int .i64 k ∧ Hid (PlIs base wr g { x with p := { x.p with rep := x.p.rep ++ (x.i.line.take k).map fun c => (c, -1, e) } } a') ∧ Hid (Below base w wr) ∧ Hid (Carry (plOwn g a) (plOwn g a') w wr)) (fun s12 _ => n - (intOf s12).toNat)
  case atStart => exact ⟨0, a, Nat.zero_le _, rfl, Lib.hid (by simpa using h), Lib.hid (Below.refl _ _), Lib.hid (carry_below (Below.refl _ _))⟩
  case round =>
    obtain ⟨k, a', hk, rfl, hp, hb, hc⟩ := hrel
    have hI := (HL.carry hc.out).at_
    by_cases hlt : k < n
    · obtain ⟨b, off, c, rfl, hbb, hx, hc1⟩ := hI.at_ hlt
      have hlen : (x.p.rep ++ (x.i.line.take k).map fun c => ((c, -1, e) : Rpl)).length ≤ 900 := by
        rw [List.length_append, List.length_map, List.length_take]
        omega
      have hs := says_any base g _ a' c (-1) e wr hp.out hlen
      clear hlen hI HL
      go_wp2_with fail
      refine hs.mono ?_
      rintro en w2 ⟨a2, rfl, h2, hb2, hc2⟩
      have e1 : ({ x with p := { x.p with rep := x.p.rep ++ (x.i.line.take k).map fun c => (c, -1, e) } } : Pol).says c (-1) e = { x with p := { x.p with rep := x.p.rep ++ (x.i.line.take (k + 1)).map fun c => (c, -1, e) } } := by
        unfold Pol.says
        rw [take_succ_of hx.out]
        simp
      rw [e1] at h2
      clear e1 hs
      go_wp2_with fail
      go_roundw
      case rel => exact ⟨k + 1, a2, by omega, by go_num, Lib.hid h2, Lib.hid (hb.out.trans hb2), Lib.hid (hc.out.trans hc2)⟩
      case measure => simp [intOf]; omega
    · obtain rfl : k = n := by omega
      have ht : x.i.line.take k = x.i.line := List.take_of_length_le (by have := hnl.out; omega)
      rw [ht] at hp
      obtain ⟨h3, hb3, hc3⟩ := hp.out.lineNil
      have f11 := hp.out.row.free 11
      have d11 := hp.out.row.cell (i := 11) rfl
      clear ht hI HL
      go_wp2_with fail
      go_end0
      exact ⟨_, rfl, h3, hb.out.trans hb3, hc.out.trans hc3⟩
/-- What shuts leaves: only that slice of the pool's is another one. -/
def PlPostS [Inhabited Ex] (base g : Nat) (a0 : PlA) (y : Pol) (w : World) (e : Ending) (w' : World) : Prop := ∃ sA sc, e = .returned (.tuple #[]) ∧ PlIs base w' g y { a0 with sA := sA, sc := sc } ∧ Below base w w' ∧ Carry (plOwn g a0) (plOwn g { a0 with sA := sA, sc := sc }) w w'
set_option maxRecDepth 100000 in
set_option maxHeartbeats 2000000 in
theorem shuts_S [Inhabited Ex] (base g : Nat) (x : Pol) (a : PlA) (A : Option Addr) (n c B : Nat) (l : List Int) (w : World) (h : PlIs base w g x a) (hl : Ints w B A n l) (hn : x.p.shut.length + n ≤ 1000) :
    Calls Try.prog 66 #[.pointer (some ⟨g, 0, none⟩), .slice A n c] w fun en w' => PlPostS base g a (x.shuts l) w en w' := by
  have c26 := h.row.cell (i := 26) rfl
  have hbase : base ≤ w.heap.size := Nat.le_trans h.gb (Nat.le_of_lt h.row.lt)
  have hlt := h.row.lt
  have hll := hl.len
  go_enter Try.func66, Try.ntmps66
  go_wp2_with (at_builtin; refine wpList_appI _ rfl (.tmp 9) (.tmp 10) rfl base a.sA x.p.shut.length a.sc x.p.shut rfl h.sh B A n c l rfl hl (by omega) hbase ?_; intro sA sc w2 ho hg hr; have hfin := h.shutted hll ho hg hr hn; have hrow2 : PlRow w2 g x a := (hg.block g hlt (fun e => ow_off h.sh h.row (by decide) e.symm)).trans h.row; have d26 := hrow2.cell (i := 26) rfl; have f26 := hrow2.free 26)
  go_end0
  exact ⟨_, _, rfl, hfin⟩
/-- A row of somebody else's that came since w0 grew: the pool is as it was. -/
theorem PlIs.regrow [Inhabited Ex] {base g : Nat} {w0 wr w3 : World} {x y : Pol} {a0 a : PlA} {row : Option Nat} (h0 : PlIs base w0 g x a0) (hc : Carry (plOwn g a0) (plOwn g a) w0 wr) (h : PlIs base wr g y a) (hls : ∀ w, PlLists x a0 w → PlLists y a w)
    (hg : wr.grownBy w3 row) (hr : ∀ q, row = some q → q ∉ plOwn g a ∧ w0.heap.size ≤ q) : PlIs base w3 g y a ∧ Carry (plOwn g a0) (plOwn g a) w0 w3 := by
  have hlt : g < wr.heap.size := h.row.lt
  have off : ∀ {A : Option Addr} {c : Nat}, (∀ q, rowOf A c = some q → q ∈ plOwn g a) → rowOf A c = none ∨ rowOf A c ≠ row := by
    intro A c hin
    cases hq : rowOf A c with
    | none => exact .inl rfl
    | some q => exact .inr fun e => (hr q e.symm).1 (hin q hq)
  have hc3 : Carry (plOwn g a0) (plOwn g a) w0 w3 := ⟨Nat.le_trans hc.1 hg.size, hc.2.1, fun b hb hno => (hg.block b (Nat.lt_of_lt_of_le hb hc.1) (fun e => by have := (hr b e.symm).2; omega)).trans (hc.2.2 b hb hno)⟩
  refine ⟨⟨(hg.block g hlt fun e => (hr g e.symm).1 (by unfold plOwn; simp)).trans h.row, ⟨h.rep.1, Ow.kept h.rep.2 hg (off fun q hq => by unfold plOwn; simp [hq])⟩, Ow.kept h.sh hg (off fun q hq => by unfold plOwn; simp [hq]), fun w'' hs hb => hls _ ((h0.lists.carry hc3) w'' hs hb), h.few, h.gb, h.caps, h.xlt⟩, hc3⟩
end Go.Proofs.Ythjanhfjehccoaa
