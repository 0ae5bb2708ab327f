/-
  What IdealKeeps computes: true. Conditions: the arguments read as an ideal and a point.
-/
import Derived.Test.YthjanhfjehccoaaPoolWakes
import Derived.Test.YthjanhfjehccoaaPtGreat
import Derived.Test.YthjanhfjehccoaaOpenId
namespace Go.Proofs.Ythjanhfjehccoaa
set_option linter.unusedVariables false
set_option linter.unusedSimpArgs false
open Go.RowKit

theorem ansIn_of {i : Idl} {p : Pnt} {a b : PlA} {W V : World} (hi : OkId W i a) (hp : OkPt W p b) (hf : FewIn i p) (hB : Below W.heap.size W V) : AnsIn i p (mg a b) V :=
  ⟨⟨(Recs.below hi.free hB).more hB.size, (hi.out.below hB).more hB.size, (hi.line.below hB).more hB.size, (hp.rd.dead.below hB).more hB.size⟩, hi.caps, hf.free, hf.out, hf.line, hf.dead, hp.kind⟩
theorem run_slicePt (p : Pnt) (b : PlA) (w : World) : (Instr.buildSlice 56 1 #[(0, .agg (ptCells p b))]).run Try.prog w = .ok (.slice (some ⟨w.heap.size, 0, none⟩) 1 1) (w.alloc (.cells (ptCells p b) 38)) := by kernel_rfl
theorem wpList_slicePt {ops : Array Oper} {rest : List Oper} {o : Oper} {a : Act} {w : World} {Q : Exit → Act → World → Prop} (hg : o.guard = none) (x : Operand) (ho : o.op = .buildSlice 56 1 #[(0, x)]) (p : Pnt) (b : PlA) (hx : a.eval x = .agg (ptCells p b))
    (h : wpList Try.prog ops Q rest (a.put o.dst (.slice (some ⟨w.heap.size, 0, none⟩) 1 1)) (w.alloc (.cells (ptCells p b) 38))) : wpList Try.prog ops Q (o :: rest) a w :=
  wpList_plain hg fun _ hK => by
    unfold Oper.wp execOp
    simp only [ho, Sem.run_bind, Sem.run_pure, List.map_toArray, List.map_cons, List.map_nil, hx, run_slicePt p b w, Result.andThen_ok]
    exact hK _ _ h
theorem row_set {w : World} {g : Nat} {cs : Array Value} {t : TypeId} (h : w.heap[g]? = some (.cells cs t (0, 0))) (i : Nat) (v : Value) : (w.setCell ⟨g, i, none⟩ v).heap[g]? = some (.cells (cs.setIfInBounds i v) t (0, 0)) := by
  simp [World.setCell, Array.getElem?_modify, h]
theorem row_free {w : World} {g : Nat} {cs : Array Value} {t : TypeId} (h : w.heap[g]? = some (.cells cs t (0, 0))) (i : Nat) : w.frozen? ⟨g, i, none⟩ = false := by
  simp [World.frozen?, h]
set_option maxRecDepth 100000 in
set_option maxHeartbeats 16000000 in
theorem IdealKeeps_walk (i : Idl) (a : PlA) (p : Pnt) (b : PlA) (W : World) (hi : OkId W i a) (hp : OkPt W p b) :
    Calls Try.prog 4 #[.agg (idCells i a), .agg (ptCells p b)] W fun e w' => e = .returned (.bool true) ∧ Below W.heap.size W w' := by
  have r1 := heap_alloc_new W (.cells (idCells i a) 50)
  have r2 := heap_alloc_new (W.alloc (.cells (idCells i a) 50)) (.cells (ptCells p b) 38)
  have b1 := Below.new_ W (.cells (idCells i a) 50)
  have b2 := Below.new_ (W.alloc (.cells (idCells i a) 50)) (.cells (ptCells p b) 38)
  have e1 : (W.alloc (.cells (idCells i a) 50)).heap.size = W.heap.size + 1 := by simp
  have r1' := (b2.block W.heap.size (by omega)).trans r1
  rw [e1] at r2
  have hB := b1.trans (b2.mono (by omega))
  clear r1 b1 b2 e1
  go_enter Try.func4, Try.ntmps4
  go_upto_region 1 with fail
  change Code.wp _ _ _ _ ((W.alloc (.cells (idCells i a) 50)).alloc (.cells (ptCells p b) 38))
  obtain ⟨W1, hW⟩ : ∃ x, (W.alloc (.cells (idCells i a) 50)).alloc (.cells (ptCells p b) 38) = x := ⟨_, rfl⟩
  rw [hW] at r1' r2 hB ⊢
  clear hW
  go_wp2_with (first | (refine wpList_load_row rfl 50 _ rfl W.heap.size rfl 50 _ _ _ r1' Try.underlying50 rfl (by kernel_rfl) ?_) | (refine wpList_load_row rfl 38 _ rfl (W.heap.size + 1) rfl 38 _ _ _ r2 Try.underlying38 rfl (by kernel_rfl) ?_) | (refine wpList_slicePt rfl _ rfl p b rfl ?_))
  have hP1 := Pt1.new_ p b W1
  have hB2 := hB.trans ((Below.new_ W1 (.cells (ptCells p b) 38)).mono hB.size)
  have hN := Below.new_ W1 (.cells (ptCells p b) 38)
  refine (great1_any i p b a W1.heap.size 0 1 _ hP1).mono ?_
  rintro e W2 ⟨r, rfl, hfew, hB3⟩
  have hB4 := hB2.trans (hB3.mono hB2.size)
  have hR1 := (hB3.block W.heap.size (Nat.lt_of_lt_of_le (Array.getElem?_eq_some_iff.1 r1').1 hN.size)).trans ((hN.block _ (Array.getElem?_eq_some_iff.1 r1').1).trans r1')
  have hR2 := (hB3.block (W.heap.size + 1) (Nat.lt_of_lt_of_le (Array.getElem?_eq_some_iff.1 r2).1 hN.size)).trans ((hN.block _ (Array.getElem?_eq_some_iff.1 r2).1).trans r2)
  clear r1' r2 hB hB2 hB3 hN hP1
  cases r
  case true =>
    clear hfew
    go_wp2_with fail
    refine (wakes_any W2).mono ?_
    rintro e W3 ⟨rfl, hB5⟩
    have hB6 := hB4.trans (hB5.mono hB4.size)
    go_wp2_with fail
    go_ret
    exact ⟨rfl, hB6⟩
  case false =>
    have hF := Lib.hid (hfew rfl)
    clear hfew
    have hin := ansIn_of hi hp hF.out hB4
    go_wp2_with (first | (refine wpList_load_row rfl 50 _ rfl W.heap.size rfl 50 _ _ _ hR1 Try.underlying50 rfl (by kernel_rfl) ?_) | (refine wpList_load_row rfl 38 _ rfl (W.heap.size + 1) rfl 38 _ _ _ hR2 Try.underlying38 rfl (by kernel_rfl) ?_))
    have hans : Calls Try.prog 15 #[.agg (idCells i a), .agg (ptCells p b)] W2 fun en w' => AnsPost (answerP i p) W2 en w' := answer_any i p (mg a b) W2 hin
    obtain ⟨z, hz⟩ : ∃ z, Hid (answerP i p = z) := ⟨_, Lib.hid rfl⟩
    rw [hz.out] at hans
    have HL := Lib.hid (answer_keeps i p)
    rw [hz.out] at HL
    clear hz hin
    refine hans.mono ?_
    rintro e W3 ⟨a3, rfl, hrd, hB5⟩
    clear hans
    have q1 := (hB5.block _ (Array.getElem?_eq_some_iff.1 hR1).1).trans hR1
    have q2 := (hB5.block _ (Array.getElem?_eq_some_iff.1 hR2).1).trans hR2
    have s1 := heap_alloc_new W3 (.cells zeroId 50)
    have s2 := heap_alloc_new (W3.alloc (.cells zeroId 50)) (.cells zeroPt 38)
    have n1 := Below.new_ W3 (.cells zeroId 50)
    have n2 := Below.new_ (W3.alloc (.cells zeroId 50)) (.cells zeroPt 38)
    have e1 : (W3.alloc (.cells zeroId 50)).heap.size = W3.heap.size + 1 := by simp
    have s1' := (n2.block W3.heap.size (by omega)).trans s1
    rw [e1] at s2
    have nB := n1.trans (n2.mono (by omega))
    clear s1 n1 n2 e1
    go_upto_region 4 with (first | (refine wpList_store_row rfl 50 _ _ rfl W3.heap.size (idCells z.i a3) rfl rfl 50 _ s1' (by kernel_rfl) (by kernel_rfl) (by kernel_rfl) ?_) | (refine wpList_store_row rfl 38 _ _ rfl (W3.heap.size + 1) (ptCells z.p a3) rfl rfl 38 _ ((setRow_other _ _ _ _ (Nat.succ_ne_self _)).trans s2) (by kernel_rfl) (by kernel_rfl) (by kernel_rfl) ?_))
    change Code.wp _ _ _ _ ((((W3.alloc (.cells zeroId 50)).alloc (.cells zeroPt 38)).setRow W3.heap.size (idCells z.i a3)).setRow (W3.heap.size + 1) (ptCells z.p a3))
    obtain ⟨V, hV⟩ : ∃ x, ((((W3.alloc (.cells zeroId 50)).alloc (.cells zeroPt 38)).setRow W3.heap.size (idCells z.i a3)).setRow (W3.heap.size + 1) (ptCells z.p a3)) = x := ⟨_, rfl⟩
    have R5 : V.heap[W3.heap.size]? = some (.cells (idCells z.i a3) 50 (0, 0)) := hV ▸ (setRow_other _ _ _ _ (Nat.ne_of_lt (Nat.lt_succ_self _))).trans (setRow_heap _ _ _ _ _ _ s1')
    have R6 : V.heap[W3.heap.size + 1]? = some (.cells (ptCells z.p a3) 38 (0, 0)) := hV ▸ setRow_heap _ _ _ _ _ _ ((setRow_other _ _ _ _ (Nat.succ_ne_self _)).trans s2)
    have hB6 : Below W3.heap.size W3 V := hV ▸ nB.trans ⟨rfl, rfl, rfl, by simp, fun b hb => (setRow_other _ _ _ _ (by omega)).trans (setRow_other _ _ _ _ (by omega))⟩
    rw [hV]
    have t1 := (Array.getElem?_eq_some_iff.1 q1).1
    have t2 := (Array.getElem?_eq_some_iff.1 q2).1
    have R1 := (hB6.block _ t1).trans q1
    have R2 := (hB6.block _ t2).trans q2
    have hB7 : Below W.heap.size W V := hB4.trans ((hB5.mono (by have := hB4.size; omega)).trans (hB6.mono (by omega)))
    have hdead := hrd.1.2.2.2.below hB6
    clear hV nB s1' s2 q1 q2 hB4 hR1 hR2 hrd
    obtain ⟨g, hg⟩ : ∃ g, W3.heap.size = g := ⟨_, rfl⟩
    rw [hg] at R5 R6 t1 t2 hdead ⊢
    clear hg hB5 hB6
    rename_i K hK
    have HK := Lib.hid hK
    clear hK
    go_wp2_with fail
    refine HK.out _ _ (wp_seq_k ?_)
    clear HK
    intro K2 hK2
    obtain ⟨cn, hcn⟩ : ∃ c : Nat, Hid ((if p.kind = 4 ∧ p.e = 0 then 1 else 0) = c) := ⟨_, Lib.hid rfl⟩
    go_cut [7] (fun s7 wx => s7 = .int .i64 (cn : Int) ∧ V = wx)
    case first =>
      have c0 : V.cell? ⟨W.heap.size + 1, 0, none⟩ = some (.int .i8 p.kind) := by rw [cell_of_row _ _ 0 _ _ _ R2]; rfl
      have c7 : V.cell? ⟨W.heap.size + 1, 7, none⟩ = some (.int .i64 p.e) := by rw [cell_of_row _ _ 7 _ _ _ R2]; rfl
      by_cases h4 : p.kind = 4
      · by_cases h0 : p.e = 0
        · have hc1 : Hid (cn = 1) := Lib.hid (by rw [← hcn.out, if_pos ⟨h4, h0⟩])
          rw [h4] at c0
          rw [h0] at c7
          clear hcn h4 h0 HL
          go_wp2_with fail
          go_meet
          case rel => exact ⟨by rw [hc1.out]; rfl, rfl⟩
        · have hc1 : Hid (cn = 0) := Lib.hid (by rw [← hcn.out, if_neg (fun h => h0 h.2)])
          have d1 : (p.e == 0) = false := by simpa using h0
          have d2 : decide (p.e = 0) = false := decide_eq_false h0
          rw [h4] at c0
          clear hcn h4 h0 HL
          go_wp2_with fail
          go_meet
          case rel => exact ⟨by rw [hc1.out]; rfl, rfl⟩
      · have hc1 : Hid (cn = 0) := Lib.hid (by rw [← hcn.out, if_neg (fun h => h4 h.1)])
        have d1 : (p.kind == 4) = false := by simpa using h4
        have d2 : decide (p.kind = 4) = false := decide_eq_false h4
        clear hcn h4 HL
        go_wp2_with fail
        go_meet
        case rel => exact ⟨by rw [hc1.out]; rfl, rfl⟩
    case rest =>
      obtain ⟨rfl, rfl⟩ := hcut
      obtain ⟨hmany, hcf, hcl, hsc, hln, hpt⟩ := HL.out
      rw [hcn.out] at hmany
      have HC := Lib.hid hcf
      have HCl := Lib.hid hcl
      have HSc := Lib.hid hsc
      have HLn := Lib.hid hln
      have HPt := Lib.hid hpt
      have hff := hF.out
      have hfree := hff.free
      have hout := hff.out
      have hcn1 : cn ≤ 1 := by rw [← hcn.out]; split <;> omega
      clear HL hcn hcf hcl hsc hln hpt hff
      refine hK2 _ _ (wp_seq_k ?_)
      clear hK2
      intro K3 hK3
      go_cut [] (fun wx => V = wx)
      case first =>
        have k0 : V.cell? ⟨g, 0, none⟩ = some (.int .i64 i.cf.1) := by rw [cell_of_row _ _ 0 _ _ _ R5, ← HC.out]; rfl
        have k1 : V.cell? ⟨g, 1, none⟩ = some (.int .i64 i.cf.2.1) := by rw [cell_of_row _ _ 1 _ _ _ R5, ← HC.out]; rfl
        have k2 : V.cell? ⟨g, 2, none⟩ = some (.int .i64 i.cf.2.2.1) := by rw [cell_of_row _ _ 2 _ _ _ R5, ← HC.out]; rfl
        have k3 : V.cell? ⟨g, 3, none⟩ = some (.int .i64 i.cf.2.2.2.1) := by rw [cell_of_row _ _ 3 _ _ _ R5, ← HC.out]; rfl
        have k4 : V.cell? ⟨g, 4, none⟩ = some (.int .i64 i.cf.2.2.2.2.1) := by rw [cell_of_row _ _ 4 _ _ _ R5, ← HC.out]; rfl
        have k5 : V.cell? ⟨g, 5, none⟩ = some (.int .i64 i.cf.2.2.2.2.2.1) := by rw [cell_of_row _ _ 5 _ _ _ R5, ← HC.out]; rfl
        have k6 : V.cell? ⟨g, 6, none⟩ = some (.int .i64 i.cf.2.2.2.2.2.2.1) := by rw [cell_of_row _ _ 6 _ _ _ R5, ← HC.out]; rfl
        have k7 : V.cell? ⟨g, 7, none⟩ = some (.int .i64 i.cf.2.2.2.2.2.2.2.1) := by rw [cell_of_row _ _ 7 _ _ _ R5, ← HC.out]; rfl
        have k8 : V.cell? ⟨g, 8, none⟩ = some (.int .i64 i.cf.2.2.2.2.2.2.2.2) := by rw [cell_of_row _ _ 8 _ _ _ R5, ← HC.out]; rfl
        have l0 : V.cell? ⟨W.heap.size, 0, none⟩ = some (.int .i64 i.cf.1) := by rw [cell_of_row _ _ 0 _ _ _ R1]; rfl
        have l1 : V.cell? ⟨W.heap.size, 1, none⟩ = some (.int .i64 i.cf.2.1) := by rw [cell_of_row _ _ 1 _ _ _ R1]; rfl
        have l2 : V.cell? ⟨W.heap.size, 2, none⟩ = some (.int .i64 i.cf.2.2.1) := by rw [cell_of_row _ _ 2 _ _ _ R1]; rfl
        have l3 : V.cell? ⟨W.heap.size, 3, none⟩ = some (.int .i64 i.cf.2.2.2.1) := by rw [cell_of_row _ _ 3 _ _ _ R1]; rfl
        have l4 : V.cell? ⟨W.heap.size, 4, none⟩ = some (.int .i64 i.cf.2.2.2.2.1) := by rw [cell_of_row _ _ 4 _ _ _ R1]; rfl
        have l5 : V.cell? ⟨W.heap.size, 5, none⟩ = some (.int .i64 i.cf.2.2.2.2.2.1) := by rw [cell_of_row _ _ 5 _ _ _ R1]; rfl
        have l6 : V.cell? ⟨W.heap.size, 6, none⟩ = some (.int .i64 i.cf.2.2.2.2.2.2.1) := by rw [cell_of_row _ _ 6 _ _ _ R1]; rfl
        have l7 : V.cell? ⟨W.heap.size, 7, none⟩ = some (.int .i64 i.cf.2.2.2.2.2.2.2.1) := by rw [cell_of_row _ _ 7 _ _ _ R1]; rfl
        have l8 : V.cell? ⟨W.heap.size, 8, none⟩ = some (.int .i64 i.cf.2.2.2.2.2.2.2.2) := by rw [cell_of_row _ _ 8 _ _ _ R1]; rfl
        have m9 : V.cell? ⟨g, 9, none⟩ = some (.slice a3.fA z.i.free.length a3.fc) := by rw [cell_of_row _ _ 9 _ _ _ R5]; rfl
        have m10 : V.cell? ⟨g, 10, none⟩ = some (.slice a3.oA z.i.out.length a3.oc) := by rw [cell_of_row _ _ 10 _ _ _ R5]; rfl
        have m14 : V.cell? ⟨g, 14, none⟩ = some (.bool z.i.closed) := by rw [cell_of_row _ _ 14 _ _ _ R5]; rfl
        have n11 : V.cell? ⟨g + 1, 11, none⟩ = some (.slice a3.sA z.p.shut.length a3.sc) := by rw [cell_of_row _ _ 11 _ _ _ R6]; rfl
        have n12 : V.cell? ⟨g + 1, 12, none⟩ = some (.bool z.p.start) := by rw [cell_of_row _ _ 12 _ _ _ R6]; rfl
        have n13 : V.cell? ⟨g + 1, 13, none⟩ = some (.bool z.p.cut) := by rw [cell_of_row _ _ 13 _ _ _ R6]; rfl
        have o9 : V.cell? ⟨W.heap.size, 9, none⟩ = some (.slice a.fA i.free.length a.fc) := by rw [cell_of_row _ _ 9 _ _ _ R1]; rfl
        have o10 : V.cell? ⟨W.heap.size, 10, none⟩ = some (.slice a.oA i.out.length a.oc) := by rw [cell_of_row _ _ 10 _ _ _ R1]; rfl
        have o14 : V.cell? ⟨W.heap.size, 14, none⟩ = some (.bool i.closed) := by rw [cell_of_row _ _ 14 _ _ _ R1]; rfl
        have hE : ∀ wx, (Op.equalIn 10000 23 (.agg #[.int .i64 i.cf.1, .int .i64 i.cf.2.1, .int .i64 i.cf.2.2.1, .int .i64 i.cf.2.2.2.1, .int .i64 i.cf.2.2.2.2.1, .int .i64 i.cf.2.2.2.2.2.1, .int .i64 i.cf.2.2.2.2.2.2.1, .int .i64 i.cf.2.2.2.2.2.2.2.1, .int .i64 i.cf.2.2.2.2.2.2.2.2]) (.agg #[.int .i64 i.cf.1, .int .i64 i.cf.2.1, .int .i64 i.cf.2.2.1, .int .i64 i.cf.2.2.2.1, .int .i64 i.cf.2.2.2.2.1, .int .i64 i.cf.2.2.2.2.2.1, .int .i64 i.cf.2.2.2.2.2.2.1, .int .i64 i.cf.2.2.2.2.2.2.2.1, .int .i64 i.cf.2.2.2.2.2.2.2.2])).run Try.prog wx = .ok true wx := fun wx => eqCf i.cf wx
        obtain ⟨nf, hnf⟩ : ∃ n, z.i.free.length = n := ⟨_, rfl⟩
        obtain ⟨no, hno⟩ : ∃ n, z.i.out.length = n := ⟨_, rfl⟩
        obtain ⟨ns, hns⟩ : ∃ n, z.p.shut.length = n := ⟨_, rfl⟩
        obtain ⟨mf, hmf⟩ : ∃ n, i.free.length = n := ⟨_, rfl⟩
        obtain ⟨mo, hmo⟩ : ∃ n, i.out.length = n := ⟨_, rfl⟩
        rw [hnf] at m9 hmany
        rw [hno] at m10 hmany
        rw [hns] at n11 hmany
        rw [hmf] at o9 hmany hfree
        rw [hmo] at o10 hmany hout
        clear hnf hno hns hmf hmo
        have w1 : IntKind.i64.wrap ((nf : Int) + (no : Int)) = (nf : Int) + (no : Int) := IntWalk.i64_in _ (by omega)
        have w2 : IntKind.i64.wrap ((nf : Int) + (no : Int) + (ns : Int)) = (nf : Int) + (no : Int) + (ns : Int) := IntWalk.i64_in _ (by omega)
        have w3 : IntKind.i64.wrap ((mf : Int) + (mo : Int)) = (mf : Int) + (mo : Int) := IntWalk.i64_in _ (by omega)
        have w4 : IntKind.i64.wrap ((mf : Int) + (mo : Int) + (cn : Int)) = (mf : Int) + (mo : Int) + (cn : Int) := IntWalk.i64_in _ (by omega)
        have d1 : ((nf : Int) + (no : Int) + (ns : Int) != (mf : Int) + (mo : Int) + (cn : Int)) = false := by simp; omega
        clear hmany hfree hout hcn1 HC HLn HPt hdead
        cases hic : i.closed
        · rw [hic] at o14
          clear hic HCl
          cases hst : z.p.start
          · rw [hst] at n12
            clear hst HSc
            go_wp2_with fail
            go_meet
            case rel => rfl
          · have hct : z.p.cut = false := by
              cases h : z.p.cut
              · rfl
              · exact absurd ⟨hst, h⟩ HSc.out
            rw [hst] at n12
            rw [hct] at n13
            clear hst hct HSc
            go_wp2_with fail
            go_meet
            case rel => rfl
        · rw [hic] at o14
          rw [HCl.out hic] at m14
          clear hic HCl
          cases hst : z.p.start
          · rw [hst] at n12
            clear hst HSc
            go_wp2_with fail
            go_meet
            case rel => rfl
          · have hct : z.p.cut = false := by
              cases h : z.p.cut
              · rfl
              · exact absurd ⟨hst, h⟩ HSc.out
            rw [hst] at n12
            rw [hct] at n13
            clear hst hct HSc
            go_wp2_with fail
            go_meet
            case rel => rfl
      case rest =>
        subst hcut
        have hlt : g + 1 < V.heap.size := (Array.getElem?_eq_some_iff.1 R6).1
        have l10 : V.cell? ⟨W.heap.size + 1, 10, none⟩ = some (.slice b.rA p.rep.length b.rc) := by rw [cell_of_row _ _ 10 _ _ _ R2]; rfl
        have l11 : V.cell? ⟨W.heap.size + 1, 11, none⟩ = some (.slice b.sA p.shut.length b.sc) := by rw [cell_of_row _ _ 11 _ _ _ R2]; rfl
        have l12 : V.cell? ⟨W.heap.size + 1, 12, none⟩ = some (.bool p.start) := by rw [cell_of_row _ _ 12 _ _ _ R2]; rfl
        have l13 : V.cell? ⟨W.heap.size + 1, 13, none⟩ = some (.bool p.cut) := by rw [cell_of_row _ _ 13 _ _ _ R2]; rfl
        have x1 := row_set R6 10 (.slice b.rA p.rep.length b.rc)
        have x2 := row_set x1 11 (.slice b.sA p.shut.length b.sc)
        have x3 := row_set x2 12 (.bool p.start)
        have x4 := row_set x3 13 (.bool p.cut)
        have y0 : V.cell? ⟨g + 1, 10, none⟩ = some (.slice a3.rA z.p.rep.length a3.rc) := by rw [cell_of_row _ _ 10 _ _ _ R6]; rfl
        have y1 : V.cell? ⟨g + 1, 11, none⟩ = some (.slice a3.sA z.p.shut.length a3.sc) := by rw [cell_of_row _ _ 11 _ _ _ R6]; rfl
        have y2 : V.cell? ⟨g + 1, 12, none⟩ = some (.bool z.p.start) := by rw [cell_of_row _ _ 12 _ _ _ R6]; rfl
        have y3 : V.cell? ⟨g + 1, 13, none⟩ = some (.bool z.p.cut) := by rw [cell_of_row _ _ 13 _ _ _ R6]; rfl
        have z0 := row_free R6 10
        have z1 := row_free R6 11
        have z2 := row_free R6 12
        have z3 := row_free R6 13
        have hSd : Below g V V.drew := (Below.refl _ _).drew
        go_upto_region 9 with fail
        refine wp_region_held_drew (S := (fun wx => Below g V wx)) (by kernel_rfl) ?_ (fun hHeld => ?_)
        · (try dsimp only); first | done | ((first | exact hSd | exact hHeld.setCell (Nat.le_succ g) _ | skip))
        first
         | (refine wpAnyH_take (i := 0) (v := ?_) rfl (by kernel_rfl) (by kernel_rfl) (by kernel_rfl) (fun _ _ _ h => h) (Or.inl ⟨by rfl, ?_⟩) hHeld ?_; rotate_left; (intro wq hSw; (try dsimp only at hSw); go_simp; done))
         | (refine wpAnyH_take (i := 0) (v := ?_) rfl (by kernel_rfl) (by kernel_rfl) (by kernel_rfl) (fun _ _ _ h => h) (Or.inl ⟨by rfl, ?_⟩) hHeld ?_; rotate_left; (intro wq hSw; (try dsimp only at hSw); go_simp; with_reducible rfl))
         | refine wpAnyH_take (i := 0) (v := undef) rfl (by kernel_rfl) (by kernel_rfl) (by kernel_rfl) (fun _ _ _ h => h) (Or.inr ⟨by rfl, rfl⟩) hHeld ?_
        try simp only [Act.put, List.getElem_toArray, List.getElem_cons_succ, List.getElem_cons_zero, List.setIfInBounds_toArray, List.set_cons_zero, List.set_cons_succ]
        first
         | (refine wpAnyH_take (i := 2) (v := ?_) rfl (by kernel_rfl) (by kernel_rfl) (by kernel_rfl) (fun _ _ _ h => h) (Or.inl ⟨by rfl, ?_⟩) hHeld ?_; rotate_left; (intro wq hSw; (try dsimp only at hSw); go_simp; done))
         | (refine wpAnyH_take (i := 2) (v := ?_) rfl (by kernel_rfl) (by kernel_rfl) (by kernel_rfl) (fun _ _ _ h => h) (Or.inl ⟨by rfl, ?_⟩) hHeld ?_; rotate_left; (intro wq hSw; (try dsimp only at hSw); go_simp; with_reducible rfl))
         | refine wpAnyH_take (i := 2) (v := undef) rfl (by kernel_rfl) (by kernel_rfl) (by kernel_rfl) (fun _ _ _ h => h) (Or.inr ⟨by rfl, rfl⟩) hHeld ?_
        try simp only [Act.put, List.getElem_toArray, List.getElem_cons_succ, List.getElem_cons_zero, List.setIfInBounds_toArray, List.set_cons_zero, List.set_cons_succ]
        first
         | (refine wpAnyH_take (i := 4) (v := ?_) rfl (by kernel_rfl) (by kernel_rfl) (by kernel_rfl) (fun _ _ _ h => h) (Or.inl ⟨by rfl, ?_⟩) hHeld ?_; rotate_left; (intro wq hSw; (try dsimp only at hSw); go_simp; done))
         | (refine wpAnyH_take (i := 4) (v := ?_) rfl (by kernel_rfl) (by kernel_rfl) (by kernel_rfl) (fun _ _ _ h => h) (Or.inl ⟨by rfl, ?_⟩) hHeld ?_; rotate_left; (intro wq hSw; (try dsimp only at hSw); go_simp; with_reducible rfl))
         | refine wpAnyH_take (i := 4) (v := undef) rfl (by kernel_rfl) (by kernel_rfl) (by kernel_rfl) (fun _ _ _ h => h) (Or.inr ⟨by rfl, rfl⟩) hHeld ?_
        try simp only [Act.put, List.getElem_toArray, List.getElem_cons_succ, List.getElem_cons_zero, List.setIfInBounds_toArray, List.set_cons_zero, List.set_cons_succ]
        first
         | (refine wpAnyH_take (i := 6) (v := ?_) rfl (by kernel_rfl) (by kernel_rfl) (by kernel_rfl) (fun _ _ _ h => h) (Or.inl ⟨by rfl, ?_⟩) hHeld ?_; rotate_left; (intro wq hSw; (try dsimp only at hSw); go_simp; done))
         | (refine wpAnyH_take (i := 6) (v := ?_) rfl (by kernel_rfl) (by kernel_rfl) (by kernel_rfl) (fun _ _ _ h => h) (Or.inl ⟨by rfl, ?_⟩) hHeld ?_; rotate_left; (intro wq hSw; (try dsimp only at hSw); go_simp; with_reducible rfl))
         | refine wpAnyH_take (i := 6) (v := undef) rfl (by kernel_rfl) (by kernel_rfl) (by kernel_rfl) (fun _ _ _ h => h) (Or.inr ⟨by rfl, rfl⟩) hHeld ?_
        try simp only [Act.put, List.getElem_toArray, List.getElem_cons_succ, List.getElem_cons_zero, List.setIfInBounds_toArray, List.set_cons_zero, List.set_cons_succ]
        refine wpAnyH_take (i := 1) (v := .slice b.rA p.rep.length b.rc) rfl (by kernel_rfl) (by kernel_rfl) (by kernel_rfl) (fun _ _ _ h => h) (Or.inl ⟨by rfl, ?_⟩) hHeld ?_
        · intro wq hSw; (try dsimp only at hSw); (have l10' := (hSw.cell (p := ⟨W.heap.size + 1, 10, none⟩) t2).trans l10); go_simp
        try simp only [Act.put, List.getElem_toArray, List.getElem_cons_succ, List.getElem_cons_zero, List.setIfInBounds_toArray, List.set_cons_zero, List.set_cons_succ]
        refine wpAnyH_take (i := 3) (v := .slice b.sA p.shut.length b.sc) rfl (by kernel_rfl) (by kernel_rfl) (by kernel_rfl) (fun _ _ _ h => h) (Or.inl ⟨by rfl, ?_⟩) hHeld ?_
        · intro wq hSw; (try dsimp only at hSw); (have l11' := (hSw.cell (p := ⟨W.heap.size + 1, 11, none⟩) t2).trans l11); go_simp
        try simp only [Act.put, List.getElem_toArray, List.getElem_cons_succ, List.getElem_cons_zero, List.setIfInBounds_toArray, List.set_cons_zero, List.set_cons_succ]
        refine wpAnyH_take (i := 5) (v := .bool p.start) rfl (by kernel_rfl) (by kernel_rfl) (by kernel_rfl) (fun _ _ _ h => h) (Or.inl ⟨by rfl, ?_⟩) hHeld ?_
        · intro wq hSw; (try dsimp only at hSw); (have l12' := (hSw.cell (p := ⟨W.heap.size + 1, 12, none⟩) t2).trans l12); go_simp
        try simp only [Act.put, List.getElem_toArray, List.getElem_cons_succ, List.getElem_cons_zero, List.setIfInBounds_toArray, List.set_cons_zero, List.set_cons_succ]
        refine wpAnyH_take (i := 7) (v := .bool p.cut) rfl (by kernel_rfl) (by kernel_rfl) (by kernel_rfl) (fun _ _ _ h => h) (Or.inl ⟨by rfl, ?_⟩) hHeld ?_
        · intro wq hSw; (try dsimp only at hSw); (have l13' := (hSw.cell (p := ⟨W.heap.size + 1, 13, none⟩) t2).trans l13); go_simp
        try simp only [Act.put, List.getElem_toArray, List.getElem_cons_succ, List.getElem_cons_zero, List.setIfInBounds_toArray, List.set_cons_zero, List.set_cons_succ]
        first
         | (refine wpAnyH_take (i := 8) (v := ?_) rfl (by kernel_rfl) (by kernel_rfl) (by kernel_rfl) (fun _ _ _ h => h) (Or.inl ⟨by rfl, ?_⟩) hHeld ?_; rotate_left; (intro wq hSw; (try dsimp only at hSw); go_simp; done))
         | (refine wpAnyH_take (i := 8) (v := ?_) rfl (by kernel_rfl) (by kernel_rfl) (by kernel_rfl) (fun _ _ _ h => h) (Or.inl ⟨by rfl, ?_⟩) hHeld ?_; rotate_left; (intro wq hSw; (try dsimp only at hSw); go_simp; with_reducible rfl))
         | refine wpAnyH_take (i := 8) (v := undef) rfl (by kernel_rfl) (by kernel_rfl) (by kernel_rfl) (fun _ _ _ h => h) (Or.inr ⟨by rfl, rfl⟩) hHeld ?_
        try simp only [Act.put, List.getElem_toArray, List.getElem_cons_succ, List.getElem_cons_zero, List.setIfInBounds_toArray, List.set_cons_zero, List.set_cons_succ]
        refine wpAnyH_ready (rs := [9]) (by kernel_rfl) (by simp) ?_
        refine AllReadyH.cons rfl (fun K hK => ?_) AllReadyH.nil
        go_simp
        refine hK.out _ _ ?_ (fun hHeld => ?_)
        · (try dsimp only); first | done | ((first | exact hSd | exact hHeld.setCell (Nat.le_succ g) _ | skip))
        clear hK K
        try simp only [Act.put, List.getElem_toArray, List.getElem_cons_succ, List.getElem_cons_zero, List.setIfInBounds_toArray, List.set_cons_zero, List.set_cons_succ]
        first
         | (refine wpAnyH_take (i := 10) (v := ?_) rfl (by kernel_rfl) (by kernel_rfl) (by kernel_rfl) (fun _ _ _ h => h) (Or.inl ⟨by rfl, ?_⟩) hHeld ?_; rotate_left; (intro wq hSw; (try dsimp only at hSw); go_simp; done))
         | (refine wpAnyH_take (i := 10) (v := ?_) rfl (by kernel_rfl) (by kernel_rfl) (by kernel_rfl) (fun _ _ _ h => h) (Or.inl ⟨by rfl, ?_⟩) hHeld ?_; rotate_left; (intro wq hSw; (try dsimp only at hSw); go_simp; with_reducible rfl))
         | refine wpAnyH_take (i := 10) (v := undef) rfl (by kernel_rfl) (by kernel_rfl) (by kernel_rfl) (fun _ _ _ h => h) (Or.inr ⟨by rfl, rfl⟩) hHeld ?_
        try simp only [Act.put, List.getElem_toArray, List.getElem_cons_succ, List.getElem_cons_zero, List.setIfInBounds_toArray, List.set_cons_zero, List.set_cons_succ]
        refine wpAnyH_ready (rs := [11]) (by kernel_rfl) (by simp) ?_
        refine AllReadyH.cons rfl (fun K hK => ?_) AllReadyH.nil
        go_simp
        refine hK.out _ _ ?_ (fun hHeld => ?_)
        · (try dsimp only); first | done | ((first | exact hSd | exact hHeld.setCell (Nat.le_succ g) _ | skip))
        clear hK K
        try simp only [Act.put, List.getElem_toArray, List.getElem_cons_succ, List.getElem_cons_zero, List.setIfInBounds_toArray, List.set_cons_zero, List.set_cons_succ]
        first
         | (refine wpAnyH_take (i := 12) (v := ?_) rfl (by kernel_rfl) (by kernel_rfl) (by kernel_rfl) (fun _ _ _ h => h) (Or.inl ⟨by rfl, ?_⟩) hHeld ?_; rotate_left; (intro wq hSw; (try dsimp only at hSw); go_simp; done))
         | (refine wpAnyH_take (i := 12) (v := ?_) rfl (by kernel_rfl) (by kernel_rfl) (by kernel_rfl) (fun _ _ _ h => h) (Or.inl ⟨by rfl, ?_⟩) hHeld ?_; rotate_left; (intro wq hSw; (try dsimp only at hSw); go_simp; with_reducible rfl))
         | refine wpAnyH_take (i := 12) (v := undef) rfl (by kernel_rfl) (by kernel_rfl) (by kernel_rfl) (fun _ _ _ h => h) (Or.inr ⟨by rfl, rfl⟩) hHeld ?_
        try simp only [Act.put, List.getElem_toArray, List.getElem_cons_succ, List.getElem_cons_zero, List.setIfInBounds_toArray, List.set_cons_zero, List.set_cons_succ]
        refine wpAnyH_ready (rs := [13]) (by kernel_rfl) (by simp) ?_
        refine AllReadyH.cons rfl (fun K hK => ?_) AllReadyH.nil
        go_simp
        refine hK.out _ _ ?_ (fun hHeld => ?_)
        · (try dsimp only); first | done | ((first | exact hSd | exact hHeld.setCell (Nat.le_succ g) _ | skip))
        clear hK K
        try simp only [Act.put, List.getElem_toArray, List.getElem_cons_succ, List.getElem_cons_zero, List.setIfInBounds_toArray, List.set_cons_zero, List.set_cons_succ]
        first
         | (refine wpAnyH_take (i := 14) (v := ?_) rfl (by kernel_rfl) (by kernel_rfl) (by kernel_rfl) (fun _ _ _ h => h) (Or.inl ⟨by rfl, ?_⟩) hHeld ?_; rotate_left; (intro wq hSw; (try dsimp only at hSw); go_simp; done))
         | (refine wpAnyH_take (i := 14) (v := ?_) rfl (by kernel_rfl) (by kernel_rfl) (by kernel_rfl) (fun _ _ _ h => h) (Or.inl ⟨by rfl, ?_⟩) hHeld ?_; rotate_left; (intro wq hSw; (try dsimp only at hSw); go_simp; with_reducible rfl))
         | refine wpAnyH_take (i := 14) (v := undef) rfl (by kernel_rfl) (by kernel_rfl) (by kernel_rfl) (fun _ _ _ h => h) (Or.inr ⟨by rfl, rfl⟩) hHeld ?_
        try simp only [Act.put, List.getElem_toArray, List.getElem_cons_succ, List.getElem_cons_zero, List.setIfInBounds_toArray, List.set_cons_zero, List.set_cons_succ]
        refine wpAnyH_ready (rs := [15]) (by kernel_rfl) (by simp) ?_
        refine AllReadyH.cons rfl (fun K hK => ?_) AllReadyH.nil
        go_simp
        refine hK.out _ _ ?_ (fun hHeld => ?_)
        · (try dsimp only); first | done | ((first | exact hSd | exact hHeld.setCell (Nat.le_succ g) _ | skip))
        clear hK K
        try simp only [Act.put, List.getElem_toArray, List.getElem_cons_succ, List.getElem_cons_zero, List.setIfInBounds_toArray, List.set_cons_zero, List.set_cons_succ]
        refine wpAnyH_done (by kernel_rfl) ?_ _
        skip
        obtain ⟨V9, hV9⟩ : ∃ x, ((((V.setCell ⟨g + 1, 10, none⟩ (.slice b.rA p.rep.length b.rc)).setCell ⟨g + 1, 11, none⟩ (.slice b.sA p.shut.length b.sc)).setCell ⟨g + 1, 12, none⟩ (.bool p.start)).setCell ⟨g + 1, 13, none⟩ (.bool p.cut)).drew = x := ⟨_, rfl⟩
        have x5 : V9.heap[g + 1]? = some (.cells (ptCells p ⟨none, 0, none, 0, none, 0, a3.dA, a3.dc, b.rA, b.rc, b.sA, b.sc⟩) 38 (0, 0)) := by
          rw [← hV9]
          refine Eq.trans (show _ = _ from x4) ?_
          have hpt := HPt.out
          congr 2
          rw [show ptCells p ⟨none, 0, none, 0, none, 0, a3.dA, a3.dc, b.rA, b.rc, b.sA, b.sc⟩ = ptCells { z.p with rep := p.rep, shut := p.shut, start := p.start, cut := p.cut } ⟨none, 0, none, 0, none, 0, a3.dA, a3.dc, b.rA, b.rc, b.sA, b.sc⟩ by rw [hpt]]
          unfold ptCells
          simp
        have hB9 : Below g V V9 := hV9 ▸ (((((Below.refl g V).setCell (p := ⟨g + 1, 10, none⟩) (Nat.le_succ g) _).setCell (p := ⟨g + 1, 11, none⟩) (Nat.le_succ g) _).setCell (p := ⟨g + 1, 12, none⟩) (Nat.le_succ g) _).setCell (p := ⟨g + 1, 13, none⟩) (Nat.le_succ g) _).drew
        have hg9 : V9.heap[g]? = V.heap[g]? := by
          rw [← hV9]
          show (World.setCell _ _ _).heap[g]? = _
          rw [Below.heap_setCell _ _ _ _ (Nat.ne_of_lt (Nat.lt_succ_self g)), Below.heap_setCell _ _ _ _ (Nat.ne_of_lt (Nat.lt_succ_self g)), Below.heap_setCell _ _ _ _ (Nat.ne_of_lt (Nat.lt_succ_self g)), Below.heap_setCell _ _ _ _ (Nat.ne_of_lt (Nat.lt_succ_self g))]
        rw [hV9]
        clear hV9 x1 x2 x3 x4 y0 y1 y2 y3 z0 z1 z2 z3 hSd l10 l11 l12 l13 hHeld
        have hz := congrArg Pnt.dead HPt.out
        simp only at hz
        rw [hz] at hdead
        have hB10 : Below W.heap.size W V9 := hB7.trans (hB9.mono (by omega))
        have hs9 := hB9.size
        have x6 : V9.heap[W.heap.size + 1]? = some (.cells (ptCells p b) 38 (0, 0)) := (hB9.block _ t2).trans R2
        obtain ⟨c, hc⟩ : ∃ c : PlA, c = ⟨none, 0, none, 0, none, 0, a3.dA, a3.dc, b.rA, b.rc, b.sA, b.sc⟩ := ⟨_, rfl⟩
        have hpc : PtRd p c V9 := by
          rw [hc]
          exact ⟨(hdead.below hB9).more (by omega), (Recs.below hp.rd.rep hB10).more hB10.size, (hp.rd.sh.below hB10).more hB10.size⟩
        have hpb : PtRd p b V9 := hp.rd.below hB10
        rw [← hc] at x5
        clear hc hdead hz HPt
        have u11 : V9.heap[g]? = some (.cells (idCells z.i a3) 50 (0, 0)) := hg9.trans R5
        have n1 := Below.new_ V9 (.cells (ptCells p c) 38)
        have n2 := Below.new_ (V9.alloc (.cells (ptCells p c) 38)) (.cells (ptCells p b) 38)
        have p1 := Pt1.new_ p c V9
        have p2 := Pt1.new_ p b (V9.alloc (.cells (ptCells p c) 38))
        have p1' := p1.below n2
        have e9 : (V9.alloc (.cells (ptCells p c) 38)).heap.size = V9.heap.size + 1 := by simp
        have x6' := (n1.block (W.heap.size + 1) (by omega)).trans x6
        have nB := n1.trans (n2.mono (by omega))
        rw [e9] at p2
        go_wp2_with (first | (refine wpList_load_row rfl 38 _ rfl (g + 1) rfl 38 _ _ _ x5 Try.underlying38 rfl (by kernel_rfl) ?_) | (refine wpList_load_row rfl 38 _ rfl (W.heap.size + 1) rfl 38 _ _ _ x6' Try.underlying38 rfl (by kernel_rfl) ?_) | (refine wpList_slicePt rfl _ rfl p c rfl ?_) | (refine wpList_slicePt rfl _ rfl p b rfl ?_))
        refine (ptSame_any p c b V9.heap.size 0 1 (V9.heap.size + 1) 0 1 _ (hpc.below nB) (hpb.below nB) ⟨by have := hF.out.dead; omega, by have := hF.out.rep; omega, by have := hF.out.sh; omega⟩ p1' p2).mono ?_
        rintro e W10 ⟨rfl, hB11⟩
        have hB12 := nB.trans (hB11.mono nB.size)
        have c11 : W10.cell? ⟨g, 11, none⟩ = some (.slice a3.lA z.i.line.length a3.lc) := by rw [cell_of_row _ _ 11 _ _ _ ((hB12.block _ (by omega)).trans u11)]; rfl
        have d11 : W10.cell? ⟨W.heap.size, 11, none⟩ = some (.slice a.lA i.line.length a.lc) := by rw [cell_of_row _ _ 11 _ _ _ ((hB12.block _ (by omega)).trans ((hB9.block _ t1).trans R1))]; rfl
        have hB13 := hB10.trans (hB12.mono hB10.size)
        have hll := hF.out.line
        have hlz := HLn.out
        obtain ⟨n, hn⟩ : ∃ n, z.i.line.length = n := ⟨_, rfl⟩
        obtain ⟨m, hm⟩ : ∃ n, i.line.length = n := ⟨_, rfl⟩
        rw [hn] at c11 hlz
        rw [hm] at d11 hlz hll
        have w1 : IntKind.i64.wrap ((m : Int) + 1) = (m : Int) + 1 := IntWalk.i64_in _ (by omega)
        have e1 : decide ((n : Int) ≤ (m : Int) + 1) = true := decide_eq_true (by omega)
        clear hn hm hll hlz x5 x6 x6' p1 p1' p2 n1 n2 e9 nB hpc hpb hB11 hB12 HLn hg9 hB9 hB10
        go_wp2_with fail
        refine (wakes_any W10).mono ?_
        rintro e W11 ⟨rfl, hB14⟩
        have hB15 := hB13.trans (hB14.mono hB13.size)
        go_wp2_with fail
        go_ret
        exact ⟨rfl, hB15⟩
end Go.Proofs.Ythjanhfjehccoaa
