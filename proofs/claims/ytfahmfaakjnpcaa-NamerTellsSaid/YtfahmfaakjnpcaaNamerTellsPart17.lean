/-
  A result that lies in a variable, read as a whole; a result and a second one beside it. Conditions: none.
  What the document's tell, flying, Flies, Asked, Over, Begin of chapter 18 compute. Conditions: a race of at most 2^40; at most 1000 lookups in flight, of at most 90000 races each.
-/
import Derived.Test.YtfahmfaakjnpcaaNamerTellsPart1
import Derived.Laws.Rows
import Derived.Deep.MidRow
import Derived.Laws.Tables
import Derived.Deep.WholeRow
import Derived.Test.YtfahmfaakjnpcaaNamerTellsPart16
namespace Go.Proofs.Ytfahmfaakjnpcaa
set_option linter.unusedVariables false
set_option linter.unusedSimpArgs false
open Go.RowKit

theorem results_cell {P : Program} {fn : Func} {t : TypeId} {s : Tmp} (h : fn.results = #[.cell s t]) (tmps : Array Value) (w : World) (g : Nat) (t' : TypeId) (cs : Array Value) (fr : Nat × Nat) (d : TypeDesc)
    (hs : tmps.getD s undef = .pointer (some ⟨g, 0, none⟩)) (hg : w.heap[g]? = some (.cells cs t' fr)) (hu : P.underlying t = some d) (hd : (match d with | .struct _ | .array _ _ => true | _ => false) = true) (hi : (P.info? t).map (·.size) = some cs.size) :
    (results fn tmps).run P w = .ok (.agg cs) w := by
  have hl := run_loadVar_row (P := P) w g t' t cs fr d hg hu hd hi
  have hs' : tmps[s]?.getD undef = .pointer (some ⟨g, 0, none⟩) := by simpa using hs
  simp [results, h, hs', asAddr, hl]
theorem results_cell_tmp {P : Program} {fn : Func} {t : TypeId} {s u : Tmp} (h : fn.results = #[.cell s t, .tmp u]) (tmps : Array Value) (w : World) (g : Nat) (t' : TypeId) (cs : Array Value) (fr : Nat × Nat) (d : TypeDesc)
    (hs : tmps.getD s undef = .pointer (some ⟨g, 0, none⟩)) (hg : w.heap[g]? = some (.cells cs t' fr)) (hu : P.underlying t = some d) (hd : (match d with | .struct _ | .array _ _ => true | _ => false) = true) (hi : (P.info? t).map (·.size) = some cs.size) :
    (results fn tmps).run P w = .ok (.tuple #[.agg cs, tmps.getD u undef]) w := by
  have hl := run_loadVar_row (P := P) w g t' t cs fr d hg hu hd hi
  have hs' : tmps[s]?.getD undef = .pointer (some ⟨g, 0, none⟩) := by simpa using hs
  simp [results, h, hs', asAddr, hl]
theorem step_storeRow {P : Program} {ops : Array Oper} {o : Oper} {a : Act} {w : World} {K : Act → World → Prop} {Q : Exit → Act → World → Prop} {E : Prop} (hgd : o.guard = none) (ty : TypeId) (x y : Operand) (ho : o.op = .store ty x y)
    (g : Nat) (cells : Array Value) (hx : a.eval x = .pointer (some ⟨g, 0, none⟩)) (hy : a.eval y = .agg cells) (t : TypeId) (old : Array Value) (hg : w.heap[g]? = some (.cells old t (0, 0))) (hi : (P.info? ty).map (·.size) = some cells.size)
    (hold : old.size = cells.size) (h1 : cells.all (·.oneCell') = true) (h : K (a.put o.dst undef) (w.setRow g cells)) :
    if Region.wanted o (yielded ops a.tmps) = true then Oper.wp P o a w K Q else E := by
  have hw : Region.wanted o (yielded ops a.tmps) = true := by simp [Region.wanted, hgd]
  rw [if_pos hw]
  exact wp_store_row ty x y ho g cells hx hy t old hg hi hold h1 h
/-- A whole struct out of a block, under any order. -/
theorem exec_loadRow {P : Program} {o : Oper} {a : Act} {w : World} (ty : TypeId) (x : Operand) (ho : o.op = .load ty x) (g : Nat) (hx : a.eval x = .pointer (some ⟨g, 0, none⟩)) (t : TypeId) (cs : Array Value) (fr : Nat × Nat) (d : TypeDesc)
    (hg : w.heap[g]? = some (.cells cs t fr)) (hu : P.underlying ty = some d) (hd : (match d with | .struct _ | .array _ _ => true | _ => false) = true) (hi : (P.info? ty).map (·.size) = some cs.size) :
    (execOp a.eval o).run P w = .ok (.value (.agg cs)) w := by
  unfold execOp
  simp only [ho, hx, Instr.loadAt, Instr.sureAddr, Sem.run_bind, Sem.run_pure, Result.andThen_ok, run_loadVar_row w g t ty cs fr d hg hu hd hi]
theorem wpList_buildAs {P : Program} {ops : Array Oper} {rest : List Oper} {o : Oper} {a : Act} {w : World} {Q : Exit → Act → World → Prop} (hg : o.guard = none) (t : TypeId) (parts : Array (Nat × Operand)) (ho : o.op = .build t parts) (v : Array Value)
    (hf : P.built t (parts.map fun (i, x) => (i, a.eval x)).toList = some v) (h : wpList P ops Q rest (a.put o.dst (.agg v)) w) : wpList P ops Q (o :: rest) a w :=
  wpList_build hg t parts ho (by rw [hf]; rfl) (by rw [hf]; exact h)
theorem exec_loadMid {P : Program} {o : Oper} {a : Act} {w : World} (ty : TypeId) (x : Operand) (ho : o.op = .load ty x) (b f : Nat) (hx : a.eval x = .pointer (some ⟨b, f, none⟩)) (cs : List Value) (d : TypeDesc)
    (hc : w.rangeAt b f cs) (hu : P.underlying ty = some d) (hd : d.isRow = true) (hi : (P.info? ty).map (·.size) = some cs.length) :
    (execOp a.eval o).run P w = .ok (.value (.agg cs.toArray)) w := by
  unfold execOp
  simp only [ho, hx, Instr.loadAt, Instr.sureAddr, Sem.run_bind, Sem.run_pure, Result.andThen_ok, run_loadVar_mid w b f ty cs d hc hu hd hi]
theorem rangeAt_off {w w' : World} {b o : Nat} {cs : List Value} (h : w.rangeAt b o cs) (hb : w'.heap[b]? = w.heap[b]?) : w'.rangeAt b o cs := fun j v hv => by
  have := h j v hv
  rw [← this]
  simp [World.cell?, hb]
theorem rangeAt_sub {w : World} {b o : Nat} {cs : List Value} (h : w.rangeAt b o cs) (i : Nat) (ds : List Value) (hd : ∀ j v, ds[j]? = some v → cs[i + j]? = some v) : w.rangeAt b (o + i) ds := fun j v hv => by
  have := h (i + j) v (hd j v hv)
  rwa [← Nat.add_assoc] at this
theorem rangeAt_row {w : World} {b : Nat} {cs : Array Value} {t : TypeId} {fr : Nat × Nat} (h : w.heap[b]? = some (.cells cs t fr)) : w.rangeAt b 0 cs.toList := fun j v hv => by
  rw [Nat.zero_add, cell_of_row _ b j _ t fr h]
  simpa using hv
end Go.Proofs.Ytfahmfaakjnpcaa
namespace Go.Proofs.Ytfahmfaakjnpcaa
set_option linter.unusedVariables false
set_option linter.unusedSimpArgs false
open Go.RowKit Go.Shelf

def tellX (r : Int) (t : ByteArray) (e : Int) : DdH := ⟨2, ofD r 3, 7, t, e, none⟩
set_option maxRecDepth 100000 in
set_option maxHeartbeats 4000000 in
theorem rtell_at (r : Int) (t : ByteArray) (e d : Int) (w : World) (hr : r ≤ 1099511627776) (hd : ofD r 3 = d) :
    Calls Try.prog 55 #[.int .i64 r, .string t, .int .i64 e] w fun en w' => en = .returned (.agg #[.int .i8 (DdH.mk 2 d 7 t e none).k, .int .i64 (DdH.mk 2 d 7 t e none).a, .int .i8 (DdH.mk 2 d 7 t e none).lk, .int .i64 0, .int .i64 0, .int .i64 0, .string (DdH.mk 2 d 7 t e none).text, .int .i64 (DdH.mk 2 d 7 t e none).e, .int .i8 0, .int .u16 0, .int .u16 0, .int .u16 0, .int .u16 0, .int .u16 0, .int .u16 0, .int .u16 0, .int .u16 0, .int .i64 0, .pointer (DdH.mk 2 d 7 t e none).go]) ∧ Below w.heap.size w w' := by
  go_enter Try.func55, Try.ntmps55
  go_wp2_with fail
  refine (rOf5_any r 3 _ (by omega) (by omega) hr).mono ?_
  rw [hd]
  rintro en w1 ⟨rfl, rfl⟩
  go_wp2_with (refine wpList_store_row rfl 50 _ _ rfl w.heap.size _ rfl rfl 50 _ (heap_alloc_new w _) (by kernel_rfl) rfl (by kernel_rfl) ?_; rw [World.setRow_alloc_new])
  exact bodyPost_ret (v := .agg #[.int .i8 (DdH.mk 2 d 7 t e none).k, .int .i64 (DdH.mk 2 d 7 t e none).a, .int .i8 (DdH.mk 2 d 7 t e none).lk, .int .i64 0, .int .i64 0, .int .i64 0, .string (DdH.mk 2 d 7 t e none).text, .int .i64 (DdH.mk 2 d 7 t e none).e, .int .i8 0, .int .u16 0, .int .u16 0, .int .u16 0, .int .u16 0, .int .u16 0, .int .u16 0, .int .u16 0, .int .u16 0, .int .i64 0, .pointer (DdH.mk 2 d 7 t e none).go]) (results_cell Try.results55 _ _ w.heap.size _ _ _ _ rfl (heap_alloc_new w _) Try.underlying50 rfl (by kernel_rfl)) rfl ⟨rfl, Below.new_ w _⟩
set_option maxRecDepth 100000 in
set_option maxHeartbeats 4000000 in
theorem rflying_any (h : NmH) (xs : List FlH) (s : ByteArray) (w : World) (r : Int) (hr : (idxL xs fun x => sEq x.name s) = r) (hF : Fls w w.heap.size h.fA h.fn xs) (hfn : h.fn ≤ 1000) :
    Calls Try.prog 38 #[.agg #[.int .i64 h.id, .int .i64 h.cf.1, .int .i64 h.cf.2.1, .int .i64 h.cf.2.2.1, .int .i64 h.cf.2.2.2.1, .int .i64 h.cf.2.2.2.2.1, .int .i64 h.cf.2.2.2.2.2.1, .int .i64 h.cf.2.2.2.2.2.2.1, .int .i64 h.cf.2.2.2.2.2.2.2.1, .int .i64 h.cf.2.2.2.2.2.2.2.2, .slice h.kA h.kn h.kc, .slice h.fA h.fn h.fc, .bool h.over], .string s] w fun e w' => e = .returned (.int .i64 r) ∧ Below w.heap.size w w' := by
  subst hr
  have HLEN := Lib.hid hF.1
  have hb0 := Below.new_ w (.cells #[.int .i64 h.id, .int .i64 h.cf.1, .int .i64 h.cf.2.1, .int .i64 h.cf.2.2.1, .int .i64 h.cf.2.2.2.1, .int .i64 h.cf.2.2.2.2.1, .int .i64 h.cf.2.2.2.2.2.1, .int .i64 h.cf.2.2.2.2.2.2.1, .int .i64 h.cf.2.2.2.2.2.2.2.1, .int .i64 h.cf.2.2.2.2.2.2.2.2, .slice h.kA h.kn h.kc, .slice h.fA h.fn h.fc, .bool h.over] 29)
  have hR : NmRow (w.alloc (.cells #[.int .i64 h.id, .int .i64 h.cf.1, .int .i64 h.cf.2.1, .int .i64 h.cf.2.2.1, .int .i64 h.cf.2.2.2.1, .int .i64 h.cf.2.2.2.2.1, .int .i64 h.cf.2.2.2.2.2.1, .int .i64 h.cf.2.2.2.2.2.2.1, .int .i64 h.cf.2.2.2.2.2.2.2.1, .int .i64 h.cf.2.2.2.2.2.2.2.2, .slice h.kA h.kn h.kc, .slice h.fA h.fn h.fc, .bool h.over] 29)) w.heap.size h := heap_alloc_new w (.cells #[.int .i64 h.id, .int .i64 h.cf.1, .int .i64 h.cf.2.1, .int .i64 h.cf.2.2.1, .int .i64 h.cf.2.2.2.1, .int .i64 h.cf.2.2.2.2.1, .int .i64 h.cf.2.2.2.2.2.1, .int .i64 h.cf.2.2.2.2.2.2.1, .int .i64 h.cf.2.2.2.2.2.2.2.1, .int .i64 h.cf.2.2.2.2.2.2.2.2, .slice h.kA h.kn h.kc, .slice h.fA h.fn h.fc, .bool h.over] 29)
  go_enter Try.func38, Try.ntmps38
  go_wp2_with fail
  generalize (w.alloc (.cells #[.int .i64 h.id, .int .i64 h.cf.1, .int .i64 h.cf.2.1, .int .i64 h.cf.2.2.1, .int .i64 h.cf.2.2.2.1, .int .i64 h.cf.2.2.2.2.1, .int .i64 h.cf.2.2.2.2.2.1, .int .i64 h.cf.2.2.2.2.2.2.1, .int .i64 h.cf.2.2.2.2.2.2.2.1, .int .i64 h.cf.2.2.2.2.2.2.2.2, .slice h.kA h.kn h.kc, .slice h.fA h.fn h.fc, .bool h.over] 29)) = W at hb0 hR ⊢
  go_loopw [5] (fun s5 wr => ∃ k : Nat, k ≤ h.fn ∧ s5 = .int .i64 k ∧ Hid ((xs.take k).any (fun x => sEq x.name s) = false) ∧ Below W.heap.size W wr) (fun s5 _ => h.fn - (intOf s5).toNat)
  case atStart => exact ⟨0, Nat.zero_le _, rfl, by show _ = _; simp, Below.refl _ _⟩
  case round =>
    obtain ⟨k, hk, rfl, hno, hbr⟩ := hrel
    have hbw := hb0.trans (hbr.mono hb0.size)
    have hR2 : NmRow wr w.heap.size h := (hbr.block _ hR.lt).trans hR
    obtain ⟨a0, a1, a2, a3, a4, a5, a6, a7, a8, a9, a10, a11, a12⟩ := hR2.cells
    clear a0 a1 a2 a3 a4 a5 a6 a7 a8 a9 a10 a12
    by_cases hlt : k < h.fn
    · obtain ⟨b, off, x, hA, hbb, hx, c0, c1, c2⟩ := Fls.cells (hF.below hbw) hlt
      have i0 : (0 : Int) ≤ (k : Int) := by omega
      have i1 : (k : Int) < (h.fn : Int) := by omega
      rw [hA] at a11
      clear hA c1 c2
      cases hq : (x.name.toList == s.toList)
      case true =>
        have hqd : decide (x.name.toList = s.toList) = true := by simpa using hq
        have HR : Hid ((idxL xs fun x => sEq x.name s) = (k : Int)) := by
          show _ = _
          unfold idxL
          rw [idxL_at hx.out (by unfold sEq; exact hq) hno.out]
        go_wp2_with fail
        go_ret
        exact ⟨ret_int HR.out.symm, hbw⟩
      case false =>
        have hqd : decide (x.name.toList = s.toList) = false := by simpa using hq
        have hno2 : Hid ((xs.take (k + 1)).any (fun x => sEq x.name s) = false) := by
          show _ = _
          rw [take_succ_of hx.out, List.any_append, hno.out]
          simp [sEq, hq]
        go_wp2_with fail
        go_roundw
        case rel => exact ⟨k + 1, by omega, by go_num, hno2, hbr⟩
        case measure => simp [intOf]; omega
    · obtain rfl : k = h.fn := by omega
      have HR : Hid ((idxL xs fun x => sEq x.name s) = -1) := by
        show _ = _
        have := hno.out
        rw [List.take_of_length_le (by rw [HLEN.out]; exact Nat.le_refl _)] at this
        unfold idxL
        rw [idxL_none this]
      go_wp2_with fail
      go_ret
      exact ⟨ret_int HR.out.symm, hbw⟩
end Go.Proofs.Ytfahmfaakjnpcaa
