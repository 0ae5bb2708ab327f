/-
  What ideal.New and ideal.Judge (of no points) compute; == of configurations. Conditions: none.
-/
import Derived.Test.YthjanhfjehccoaaPtSame
import Derived.Laws.StructEq
namespace Go.Proofs.Ythjanhfjehccoaa
set_option linter.unusedVariables false
set_option linter.unusedSimpArgs false
open Go.RowKit

def cfCells (x : Cfg) : Array Value := #[.int .i64 x.1, .int .i64 x.2.1, .int .i64 x.2.2.1, .int .i64 x.2.2.2.1, .int .i64 x.2.2.2.2.1, .int .i64 x.2.2.2.2.2.1, .int .i64 x.2.2.2.2.2.2.1, .int .i64 x.2.2.2.2.2.2.2.1, .int .i64 x.2.2.2.2.2.2.2.2]
set_option maxHeartbeats 4000000 in
theorem eqCf (x : Cfg) (w : World) : (Op.equalIn 10000 23 (.agg (cfCells x)) (.agg (cfCells x))).run Try.prog w = .ok true w := by
  obtain ⟨a0, a1, a2, a3, a4, a5, a6, a7, a8⟩ := x
  have u3 := Try.underlying3
  have hS : Try.prog.underlying 23 = some (.struct (Try.prog.fieldsOf 23)) := by kernel_rfl
  have hp : Try.prog.stoodInHeld 23 = false := by kernel_rfl
  unfold cfCells
  rw [show (10000 : Nat) = 9999 + 1 from rfl, run_equalIn_agg w 9999 23 _ _ hS hp]
  simp only [Program.fieldsOf, Try.underlying23]
  go_simp
/-- An ideal at the beginning. -/
def idl0 (c : Cfg) : Idl := ⟨c, [], [], [], false, false, false⟩
def pla0 : PlA := ⟨none, 0, none, 0, none, 0, none, 0, none, 0, none, 0⟩
set_option maxRecDepth 100000 in
set_option maxHeartbeats 8000000 in
theorem new_any (c : Cfg) (w : World) :
    Calls Try.prog 23 #[.agg (cfCells c)] w fun e w' => e = .returned (.agg (idCells (idl0 c) pla0)) ∧ Below w.heap.size w w' := by
  have r1 := heap_alloc_new w (.cells (cfCells c) 23)
  have b1 := Below.new_ w (.cells (cfCells c) 23)
  have r2 := heap_alloc_new (w.alloc (.cells (cfCells c) 23)) (.cells zeroId 50)
  have b2 := Below.new_ (w.alloc (.cells (cfCells c) 23)) (.cells zeroId 50)
  have e1 : (w.alloc (.cells (cfCells c) 23)).heap.size = w.heap.size + 1 := by simp
  rw [e1] at r2
  have r1' := (b2.block w.heap.size (by omega)).trans r1
  have hB := b1.trans (b2.mono (by omega))
  clear r1 b1 b2 e1
  go_enter Try.func23, Try.ntmps23
  go_upto_region 1 with fail
  change Code.wp _ _ _ _ ((w.alloc (.cells (cfCells c) 23)).alloc (.cells zeroId 50))
  obtain ⟨W, hW⟩ : ∃ W, (w.alloc (.cells (cfCells c) 23)).alloc (.cells zeroId 50) = W := ⟨_, rfl⟩
  rw [hW] at r1' r2 hB ⊢
  clear hW
  go_wp2_with (first | (refine wpList_load_row rfl 23 _ rfl w.heap.size rfl 23 _ _ _ r1' Try.underlying23 rfl (by kernel_rfl) ?_) | (refine wpList_buildAs rfl 50 _ rfl (idCells (idl0 c) pla0) (by kernel_rfl) ?_) | (refine wpList_store_row rfl 50 _ _ rfl (w.heap.size + 1) (idCells (idl0 c) pla0) rfl rfl 50 _ r2 (by kernel_rfl) rfl (by kernel_rfl) ?_))
  refine bodyPost_ret (v := .agg (idCells (idl0 c) pla0)) (results_cell (t := 50) Try.results23 _ _ (w.heap.size + 1) 50 (idCells (idl0 c) pla0) (0, 0) _ rfl (setRow_heap _ _ _ _ _ _ r2) Try.underlying50 rfl (by kernel_rfl)) rfl ⟨rfl, hB.trans ⟨rfl, rfl, rfl, by simp, fun k hk => setRow_other _ _ _ _ (by omega)⟩⟩
set_option maxRecDepth 100000 in
set_option maxHeartbeats 8000000 in
theorem judge0_any (c : Cfg) (o : Int) (w : World) :
    Calls Try.prog 24 #[.agg (cfCells c), .int .i64 o, .slice none 0 0] w fun e w' => e = .returned (.int .i64 (-1)) ∧ Below w.heap.size w w' := by
  have r1 := heap_alloc_new w (.cells (cfCells c) 23)
  have b1 := Below.new_ w (.cells (cfCells c) 23)
  go_enter Try.func24, Try.ntmps24
  go_upto_region 1 with fail
  change Code.wp _ _ _ _ (w.alloc (.cells (cfCells c) 23))
  obtain ⟨W, hW⟩ : ∃ W, w.alloc (.cells (cfCells c) 23) = W := ⟨_, rfl⟩
  rw [hW] at r1 b1 ⊢
  clear hW
  go_step3
  go_wp2_with (first | (refine wpList_load_row rfl 23 _ rfl w.heap.size rfl 23 _ _ _ r1 Try.underlying23 rfl (by kernel_rfl) ?_))
  refine (new_any c W).mono ?_
  rintro e W2 ⟨rfl, hB2⟩
  have hB3 := b1.trans (hB2.mono b1.size)
  go_wp2_with (first | (refine wpList_store_row rfl 50 _ _ rfl W2.heap.size (idCells (idl0 c) pla0) rfl rfl 50 _ (heap_alloc_new _ _) (by kernel_rfl) (by kernel_rfl) (by kernel_rfl) ?_; rw [World.setRow_alloc_new]))
  have hB4 := hB3.trans ((Below.new_ W2 (.cells (idCells (idl0 c) pla0) 50)).mono hB3.size)
  go_step3
  go_wp2_with fail
  go_loopw [16] (fun s16 wr => s16 = .int .i64 0 ∧ Below w.heap.size w wr) (fun _ _ => 0)
  case atStart => exact ⟨rfl, hB4⟩
  case round =>
    obtain ⟨rfl, hbr⟩ := hrel
    go_wp2_with fail
    rw [Exit.noGoto_ret]
    go_ret
    exact ⟨rfl, hbr⟩
end Go.Proofs.Ythjanhfjehccoaa
