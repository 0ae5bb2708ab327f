/-
  Steps of IdealBook's last regions: boxes made in whatever order, the ideal's answer with its lists kept out of them. Conditions: as each states.
-/
import Derived.Test.YthjanhfjehccoaaIdealBookPart7
import Derived.Test.YthjanhfjehccoaaPoolWakes
namespace Go.Proofs.Ythjanhfjehccoaa
set_option linter.unusedVariables false
set_option linter.unusedSimpArgs false
open Go.RowKit

def pA (dA : Option Addr) (dc : Nat) : PlA := ⟨none, 0, none, 0, none, 0, dA, dc, none, 0, none, 0⟩
theorem run_allocId (w : World) : (Instr.alloc 50 true (.tuple #[])).run Try.prog w = .ok (.pointer (some ⟨w.heap.size, 0, none⟩)) (w.alloc (.cells zeroId 50)) := by kernel_rfl
theorem run_allocPt (w : World) : (Instr.alloc 38 true (.tuple #[])).run Try.prog w = .ok (.pointer (some ⟨w.heap.size, 0, none⟩)) (w.alloc (.cells zeroPt 38)) := by kernel_rfl
/-- A box made, its number and the world left open. -/
theorem step_allocBox {T : TypeId} {zs : Array Value} (hrun : ∀ w : World, (Instr.alloc T true (.tuple #[])).run Try.prog w = .ok (.pointer (some ⟨w.heap.size, 0, none⟩)) (w.alloc (.cells zs T))) {ops : Array Oper} {o : Oper} {a : Act} {w : World} {K : Act → World → Prop} {Q : Exit → Act → World → Prop} {E : Prop} (hgd : o.guard = none) (ho : o.op = .alloc T)
    (h : ∀ x w', w.heap.size ≤ x → x < w'.heap.size → w'.heap[x]? = some (.cells zs T (0, 0)) → Below w.heap.size w w' → K (a.put o.dst (.pointer (some ⟨x, 0, none⟩))) w') :
    if Region.wanted o (yielded ops a.tmps) = true then Oper.wp Try.prog o a w K Q else E := by
  have hw : Region.wanted o (yielded ops a.tmps) = true := by simp [Region.wanted, hgd]
  rw [if_pos hw]
  unfold Oper.wp execOp
  simp only [ho, Sem.run_bind, Sem.run_pure, hrun w, Result.andThen_ok]
  exact h w.heap.size _ (Nat.le_refl _) (by simp) (heap_alloc_new w _) (Below.new_ w _)
/-- What the ideal of a book answers, its lists kept out of the blocks xs. -/
theorem ansBk {W V : World} {b : Bok} {a : BokA} {sl : List Sc} (kind c sock now : Int) (keep : Bool) (dA : Option Addr) (dc : Nat) (dead : List Int) (z : Pol) (hi : OkBk W b a sl) (hd : Ints W W.heap.size dA dead.length dead) (hB : Below W.heap.size W V) (hfw : BokFew b a) (hdd : dead.length ≤ 60) (hk : -128 ≤ kind ∧ kind ≤ 127)
    (xs : List Nat) (hx : ∀ q ∈ xs, W.heap.size ≤ q ∧ q < V.heap.size) (hz : answerP b.of (pntB kind c sock keep now dead) = z) :
    Calls Try.prog 15 #[.agg (idCells b.of (ofA a)), .agg (ptCells (pntB kind c sock keep now dead) (pA dA dc))] V fun en w' => ∃ a3, en = .returned (.tuple #[.agg (idCells z.i a3), .agg (ptCells z.p a3)]) ∧ Below V.heap.size V w' ∧ Stay (fun q => q ∉ xs) w' (Rd z a3) := by
  letI E : Inhabited Ex := ⟨⟨xs⟩⟩
  have h := @answerX_any E b.of (pntB kind c sock keep now dead) (mg (ofA a) (pA dA dc)) V W.heap.size ⟨Recs.below hi.free hB, hi.leased.below hB, hi.wait.below hB, hd.below hB, hB.size, hx, hi.caps, by have := hfw.idle; show b.idle.length ≤ 100; omega, hfw.leased, hfw.wait, hdd, hk⟩
  rw [hz] at h
  refine h.mono ?_
  rintro en w' ⟨a3, rfl, _, h2, h3⟩
  exact ⟨a3, rfl, h2, h3⟩
/-- Behind the ideal's answer: its boxes. -/
def R27 (z : Pol) (wc : World) (s18 s19 : Value) (wx : World) : Prop :=
  ∃ x18 x19 a3, s18 = .pointer (some ⟨x18, 0, none⟩) ∧ s19 = .pointer (some ⟨x19, 0, none⟩) ∧ wc.heap.size ≤ x18 ∧ wc.heap.size ≤ x19 ∧ wx.heap[x18]? = some (.cells (idCells z.i a3) 50 (0, 0)) ∧ wx.heap[x19]? = some (.cells (ptCells z.p a3) 38 (0, 0)) ∧ Rd z a3 wx ∧ Below wc.heap.size wc wx
theorem r27_mk {wc w3 w : World} {x18 x19 : Nat} {z : Pol} {a3 : PlA} {xs : List Nat} (hS : Below wc.heap.size wc w) (hT : Below w3.heap.size w3 w) (hst : Stay (fun q => q ∉ xs) w3 (Rd z a3)) (l18 : wc.heap.size ≤ x18) (l19 : wc.heap.size ≤ x19)
    (q18 : w.heap[x18]? = some (.cells zeroId 50 (0, 0))) (q19 : w.heap[x19]? = some (.cells zeroPt 38 (0, 0))) (h18 : ∀ b, b < w3.heap.size → b ∉ xs → b ≠ x18) (h19 : ∀ b, b < w3.heap.size → b ∉ xs → b ≠ x19) :
    R27 z wc (.pointer (some ⟨x18, 0, none⟩)) (.pointer (some ⟨x19, 0, none⟩)) ((w.setRow x18 (idCells z.i a3)).setRow x19 (ptCells z.p a3)) := by
  have hne : x18 ≠ x19 := by
    rintro rfl
    rw [q18] at q19
    cases q19
  refine ⟨x18, x19, a3, rfl, rfl, l18, l19, (setRow_other _ _ _ _ hne).trans (setRow_heap _ _ _ _ _ _ q18), setRow_heap _ _ _ _ _ _ ((setRow_other _ _ _ _ hne.symm).trans q19), hst _ (by have := hT.size; simpa using this) fun b hb hx => ?_, below_row (below_row hS l18 _) l19 _⟩
  exact (setRow_other _ _ _ _ (h19 b hb hx)).trans ((setRow_other _ _ _ _ (h18 b hb hx)).trans (hT.block b hb))
theorem run_slicePt (p : Pnt) (b : PlA) (w : World) : (Instr.buildSlice 56 1 #[(0, .agg (ptCells p b))]).run Try.prog w = .ok (.slice (some ⟨w.heap.size, 0, none⟩) 1 1) (w.alloc (.cells (ptCells p b) 38)) := by kernel_rfl
/-- A slice of one point, its block and the world left open. -/
theorem step_slicePt {ops : Array Oper} {o : Oper} {a : Act} {w : World} {K : Act → World → Prop} {Q : Exit → Act → World → Prop} {E : Prop} (hw : Region.wanted o (yielded ops a.tmps) = true) (x : Operand) (ho : o.op = .buildSlice 56 1 #[(0, x)]) (p : Pnt) (b : PlA) (hx : a.eval x = .agg (ptCells p b))
    (h : ∀ y w', Pt1 p b w' y 0 → Below w.heap.size w w' → K (a.put o.dst (.slice (some ⟨y, 0, none⟩) 1 1)) w') :
    if Region.wanted o (yielded ops a.tmps) = true then Oper.wp Try.prog o a w K Q else E := by
  rw [if_pos hw]
  unfold Oper.wp execOp
  simp only [ho, Sem.run_bind, Sem.run_pure, List.map_toArray, List.map_cons, List.map_nil, hx, run_slicePt p b w, Result.andThen_ok]
  exact h w.heap.size _ (Pt1.new_ p b w) (Below.new_ w _)
end Go.Proofs.Ythjanhfjehccoaa
