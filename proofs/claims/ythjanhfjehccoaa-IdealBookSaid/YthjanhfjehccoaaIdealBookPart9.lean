/-
  What IdealBook computes: true. Conditions: the arguments read as a book, numbers and a row.
-/
import Derived.Test.YthjanhfjehccoaaIdealBookPart8
namespace Go.Proofs.Ythjanhfjehccoaa
set_option linter.unusedVariables false
set_option linter.unusedSimpArgs false
open Go.RowKit

theorem endsB_form (b : Bok) : (∀ c now dead, ∃ x t, b.ask c now dead = Bok.endsB x t) ∧ (∀ c sock keep now dead, ∃ x t, b.back c sock keep now dead = Bok.endsB x t) ∧ (∀ c, ∃ x t, b.quit c = Bok.endsB x t) ∧ (∀ sock now dead, ∃ x t, b.told sock now dead = Bok.endsB x t) ∧ (∀ now dead, ∃ x t, b.old now dead = Bok.endsB x t) ∧ (∀ c, ∃ x t, b.close c = Bok.endsB x t) := by
  refine ⟨fun c now dead => ?_, fun c sock keep now dead => ?_, fun c => ?_, fun sock now dead => ?_, fun now dead => ⟨_, _, rfl⟩, fun c => ?_⟩
  · unfold Bok.ask
    dsimp only
    repeat' split
    all_goals exact ⟨_, _, rfl⟩
  · unfold Bok.back
    dsimp only
    repeat' split
    all_goals exact ⟨_, _, rfl⟩
  · unfold Bok.quit
    dsimp only
    split
    all_goals exact ⟨_, _, rfl⟩
  · unfold Bok.told
    split
    all_goals exact ⟨_, _, rfl⟩
  · unfold Bok.close
    dsimp only
    split
    all_goals exact ⟨_, _, rfl⟩
theorem file_rep (b : Bok) (t : Trn) (s n : Int) : (b.file t s n).2.rep.length ≤ t.rep.length + 1 := by
  unfold Bok.file
  split
  · simp [Bok.part, Trn.say]
  · split <;> simp
theorem rep_few (b : Bok) (hw : b.wait.length ≤ 200) : (∀ c now dead, (b.ask c now dead).2.rep.length ≤ 300) ∧ (∀ c sock keep now dead, (b.back c sock keep now dead).2.rep.length ≤ 300) ∧ (∀ c, (b.quit c).2.rep.length ≤ 300) ∧ (∀ sock now dead, (b.told sock now dead).2.rep.length ≤ 300) ∧ (∀ now dead, (b.old now dead).2.rep.length ≤ 300) ∧ (∀ c, (b.close c).2.rep.length ≤ 300) := by
  refine ⟨fun c now dead => ?_, fun c sock keep now dead => ?_, fun c => ?_, fun sock now dead => ?_, fun now dead => by simp [Bok.old, Bok.endsB, trn0], fun c => ?_⟩
  · unfold Bok.ask
    dsimp only
    repeat' split
    all_goals simp [Bok.endsB, Trn.say, trn0]
  · unfold Bok.back
    dsimp only
    repeat' split
    · simp [Bok.endsB, Trn.say, trn0]
    · have := file_rep ({ b with leased := b.leased.erase sock } : Bok) (trn0.say c (-1) 0) sock now
      have h1 : (trn0.say c (-1) 0).rep.length = 1 := rfl
      show (Bok.file _ _ sock now).2.rep.length ≤ 300
      omega
    · simp [Bok.endsB, Trn.say, trn0]
    · simp [Bok.endsB, Trn.say, trn0]
  · unfold Bok.quit
    dsimp only
    split
    all_goals simp [Bok.endsB, Bok.part, Trn.say, trn0]
  · unfold Bok.told
    split
    · simp [Bok.endsB, trn0]
    · have := file_rep b.endF trn0 sock now
      have h1 : trn0.rep.length = 0 := rfl
      show (Bok.file _ _ sock now).2.rep.length ≤ 300
      omega
  · unfold Bok.close
    dsimp only
    split
    · simp [Bok.endsB, Trn.say, trn0]
    · simp [Bok.endsB, Bok.fail, Bok.part, Trn.say, trn0]
      omega
/-- What a decision says of the ideal's answer. -/
structure LawQ (b : Bok) (p : Pnt) (q : Bok × Trn) : Prop where
  law : answerP b.of p = ⟨(fin q).of, wantP p q.2⟩
  start : q.2.start = true → q.1.race < 0 ∧ 0 ≤ q.1.refs
  few : q.2.rep.length ≤ 300
theorem LawQ.mk2 {b : Bok} {p : Pnt} {q : Bok × Trn} (h1 : answerP b.of p = ⟨(fin q).of, wantP p q.2⟩) (h2 : ∃ x t, q = Bok.endsB x t) (h3 : q.2.rep.length ≤ 300) : LawQ b p q := by
  refine ⟨h1, ?_, h3⟩
  obtain ⟨x, t, rfl⟩ := h2
  intro h
  obtain ⟨_, h4, h5⟩ := (endsB_start x t).1 h
  exact ⟨h4, Int.le_of_lt h5⟩
/-- The boxes of the statement. -/
structure Bx (W : World) (g : Nat) (cb0 cp cb ct : Array Value) (wx : World) : Prop where
  r0 : wx.heap[W.heap.size]? = some (.cells cb0 30 (0, 0))
  rp : wx.heap[g]? = some (.cells cp 38 (0, 0))
  ro : wx.heap[g + 1]? = some (.cells cb 30 (0, 0))
  rt : wx.heap[g + 2]? = some (.cells ct 40 (0, 0))
  bel : Below W.heap.size W wx
  hg : W.heap.size < g
namespace Bx
variable {W wx wy : World} {g : Nat} {cb0 cp cb ct : Array Value}
theorem lt (h : Bx W g cb0 cp cb ct wx) : g + 2 < wx.heap.size := (Array.getElem?_eq_some_iff.1 h.rt).1
theorem below (h : Bx W g cb0 cp cb ct wx) (hb : Below wx.heap.size wx wy) : Bx W g cb0 cp cb ct wy := by
  have hl := h.lt
  have hg := h.hg
  exact ⟨(hb.block _ (by omega)).trans h.r0, (hb.block _ (by omega)).trans h.rp, (hb.block _ (by omega)).trans h.ro, (hb.block _ (by omega)).trans h.rt, h.bel.trans (hb.mono h.bel.size), hg⟩
theorem setP (h : Bx W g cb0 cp cb ct wx) (i : Nat) (v : Value) : Bx W g cb0 (cp.setIfInBounds i v) cb ct (wx.setCell ⟨g, i, none⟩ v) := by
  have hg := h.hg
  exact ⟨(Below.heap_setCell _ _ _ _ (by show _ ≠ g; omega)).trans h.r0, rw_set h.rp i v, (Below.heap_setCell _ _ _ _ (by show _ ≠ g; omega)).trans h.ro, (Below.heap_setCell _ _ _ _ (by show _ ≠ g; omega)).trans h.rt, h.bel.setCell (p := ⟨g, i, none⟩) (Nat.le_of_lt hg) v, hg⟩
theorem rowO (h : Bx W g cb0 cp cb ct wx) (cs : Array Value) : Bx W g cb0 cp cs ct (wx.setRow (g + 1) cs) ∧ Side W.heap.size wx (wx.setRow (g + 1) cs) := by
  have hg := h.hg
  exact ⟨⟨(setRow_other _ _ _ _ (by omega)).trans h.r0, (setRow_other _ _ _ _ (by omega)).trans h.rp, setRow_heap _ _ _ _ _ _ h.ro, (setRow_other _ _ _ _ (by omega)).trans h.rt, below_row h.bel (by omega) _, hg⟩, side_row h.ro (by omega) (by decide) cs⟩
theorem rowT (h : Bx W g cb0 cp cb ct wx) (cs : Array Value) : Bx W g cb0 cp cb cs (wx.setRow (g + 2) cs) ∧ Side W.heap.size wx (wx.setRow (g + 2) cs) := by
  have hg := h.hg
  exact ⟨⟨(setRow_other _ _ _ _ (by omega)).trans h.r0, (setRow_other _ _ _ _ (by omega)).trans h.rp, (setRow_other _ _ _ _ (by omega)).trans h.ro, setRow_heap _ _ _ _ _ _ h.rt, below_row h.bel (by omega) _, hg⟩, side_row h.rt (by omega) (by decide) cs⟩
end Bx
theorem okBk_bk {W wx : World} {b : Bok} {a : BokA} {sl : List Sc} (h : OkBk W b a sl) (hb : Below W.heap.size W wx) : BkOk wx W.heap.size b a :=
  ⟨.inl (Sl.below h.free.2 hb), .inl (Sl.below h.leased hb), .inl (Sl.below h.wait hb), h.caps.1.1, h.caps.2.1.1, h.caps.2.2.1⟩
theorem okBk_started {w : World} {base : Nat} {b : Bok} {a : BokA} (hr : b.race < 0) (h : BkOk w base b a) : BkOk w base (b.started 7) a := by
  have hse : b.started 7 = { b with race := 7, cut := false, refs := max b.refs 0 } := by unfold Bok.started; rw [if_neg (by omega)]
  rw [hse]
  exact ⟨h.idle, h.leased, h.wait, h.ic, h.lc, h.wc⟩
/-- Behind a decision. -/
def RelQ (W : World) (g : Nat) (b : Bok) (a : BokA) (c sock now : Int) (keep : Bool) (dA : Option Addr) (dc : Nat) (dead : List Int) (wx : World) : Prop :=
  ∃ (kind : Int) (q : Bok × Trn) (a' : BokA) (ta : TrnA), (-128 ≤ kind ∧ kind ≤ 127) ∧ LawQ b (pntB kind c sock keep now dead) q ∧ Bx W g (bkCells b a) (ptCells (pntB kind c sock keep now dead) (pA dA dc)) (bkCells q.1 a') (tnCells q.2 ta) wx ∧ BkOk wx W.heap.size q.1 a' ∧ (∃ B, W.heap.size ≤ B ∧ TnOk wx B q.2 ta)
/-- A whole struct out of a block, behind a guard. -/
theorem wpList_load_rowG {P : Program} {ops : Array Oper} {rest : List Oper} {o : Oper} {a : Act} {w : World} {Q : Exit → Act → World → Prop} (hw : Region.wanted o (yielded ops a.tmps) = true) (ty : TypeId) (x : Operand) (ho : o.op = .load ty x) (g : Nat) (hx : a.eval x = .pointer (some ⟨g, 0, none⟩)) (t : TypeId) (cs : Array Value) (fr : Nat × Nat) (d : TypeDesc)
    (hg : w.heap[g]? = some (.cells cs t fr)) (hu : P.underlying ty = some d) (hd : (match d with | .struct _ | .array _ _ => true | _ => false) = true) (hi : (P.info? ty).map (·.size) = some cs.size) (h : wpList P ops Q rest (a.put o.dst (.agg cs)) w) : wpList P ops Q (o :: rest) a w :=
  wpList_step fun K hK => by
    rw [if_pos hw]
    unfold Oper.wp
    rw [exec_loadRow ty x ho g hx t cs fr d hg hu hd hi]
    exact hK _ _ h
def Bk30Post (W : World) (e : Ending) (w' : World) : Prop := e = .returned (.bool true) ∧ Below W.heap.size W w'
theorem tmod6 (a : Int) : -6 < a.tmod 6 ∧ a.tmod 6 < 6 := by
  cases a with
  | ofNat n =>
    have : (Int.ofNat n).tmod 6 = ((n % 6 : Nat) : Int) := rfl
    rw [this]
    omega
  | negSucc n =>
    have : (Int.negSucc n).tmod 6 = -(((n + 1) % 6 : Nat) : Int) := rfl
    rw [this]
    omega
theorem tmod6p (a : Int) (h : 0 ≤ a) : 0 ≤ a.tmod 6 ∧ a.tmod 6 < 6 := by
  cases a with
  | ofNat n =>
    have : (Int.ofNat n).tmod 6 = ((n % 6 : Nat) : Int) := rfl
    rw [this]
    omega
  | negSucc n => omega
/-- A book that may be, of small rows. -/
def PreQ (W : World) (b : Bok) (a : BokA) (dead : List Int) (wx : World) : Prop := Hid (BokOk b) ∧ Hid (BokFew b a) ∧ Hid (dead.length ≤ 60) ∧ wx.heap[W.heap.size]? = some (.cells (bkCells b a) 30 (0, 0)) ∧ Below W.heap.size W wx
end Go.Proofs.Ythjanhfjehccoaa
