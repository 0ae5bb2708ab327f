/-
  What switchboardref30.Great computes of one point. Conditions: none.
-/
import Derived.Test.YthjanhfjehccoaaPtSame
namespace Go.Proofs.Ythjanhfjehccoaa
set_option linter.unusedVariables false
set_option linter.unusedSimpArgs false
open Go.RowKit

/-- An ideal and a point that are not too great. -/
structure FewIn (i : Idl) (p : Pnt) : Prop where
  dead : p.dead.length ≤ 60
  rep : p.rep.length ≤ 60
  sh : p.shut.length ≤ 60
  free : i.free.length ≤ 100
  out : i.out.length ≤ 100
  line : i.line.length ≤ 100
def Gr1Post (i : Idl) (p : Pnt) (w : World) (e : Ending) (w' : World) : Prop := ∃ r, e = .returned (.bool r) ∧ (r = false → FewIn i p) ∧ Below w.heap.size w w'
theorem Gr1Post.yes {i : Idl} {p : Pnt} {w w' : World} (hb : Below w.heap.size w w') : Gr1Post i p w (.returned (.bool true)) w' := ⟨true, rfl, by simp, hb⟩
set_option maxRecDepth 100000 in
set_option maxHeartbeats 8000000 in
theorem great1_any (i : Idl) (p : Pnt) (a b0 : PlA) (b o c : Nat) (w : World) (hp : Pt1 p a w b o) :
    Calls Try.prog 19 #[.agg (idCells i b0), .slice (some ⟨b, o, none⟩) 1 c] w fun e w' => Gr1Post i p w e w' := by
  have r1 := heap_alloc_new w (.cells (idCells i b0) 50)
  have b1 := Below.new_ w (.cells (idCells i b0) 50)
  have hp1 := hp.below b1
  go_enter Try.func19, Try.ntmps19
  go_upto_region 1 with fail
  change Code.wp _ _ _ _ (w.alloc (.cells (idCells i b0) 50))
  obtain ⟨W, hW⟩ : ∃ W, w.alloc (.cells (idCells i b0) 50) = W := ⟨_, rfl⟩
  rw [hW] at r1 b1 hp1 ⊢
  clear hW
  have c8 : W.cell? ⟨b, o + 8, none⟩ = some (.string p.bad) := hp1.1 8 _ rfl
  have c9 : W.cell? ⟨b, o + 9, none⟩ = some (.slice a.dA p.dead.length a.dc) := hp1.1 9 _ rfl
  have c10 : W.cell? ⟨b, o + 10, none⟩ = some (.slice a.rA p.rep.length a.rc) := hp1.1 10 _ rfl
  have c11 : W.cell? ⟨b, o + 11, none⟩ = some (.slice a.sA p.shut.length a.sc) := hp1.1 11 _ rfl
  have d9 : W.cell? ⟨w.heap.size, 9, none⟩ = some (.slice b0.fA i.free.length b0.fc) := by rw [cell_of_row _ _ 9 _ _ _ r1]; rfl
  have d10 : W.cell? ⟨w.heap.size, 10, none⟩ = some (.slice b0.oA i.out.length b0.oc) := by rw [cell_of_row _ _ 10 _ _ _ r1]; rfl
  have d11 : W.cell? ⟨w.heap.size, 11, none⟩ = some (.slice b0.lA i.line.length b0.lc) := by rw [cell_of_row _ _ 11 _ _ _ r1]; rfl
  go_wp2_with fail
  go_loopw [5] (fun s5 wr => ∃ k : Nat, k ≤ 1 ∧ s5 = .int .i64 k ∧ Hid (k = 1 → p.dead.length ≤ 60 ∧ p.rep.length ≤ 60 ∧ p.shut.length ≤ 60) ∧ W = wr) (fun s5 _ => 1 - (intOf s5).toNat)
  case atStart => exact ⟨0, Nat.zero_le _, rfl, Lib.hid (fun h => by omega), rfl⟩
  case round =>
    obtain ⟨k, hk, rfl, hsm, rfl⟩ := hrel
    by_cases hk0 : k = 0
    · subst hk0
      clear d9 d10 d11 hsm
      cases e1 : decide ((60 : Int) < (p.dead.length : Int))
      case true =>
        have e1' : decide (60 < p.dead.length) = true := by simp at e1 ⊢; omega
        go_wp2_with fail
        go_ret
        exact Gr1Post.yes b1
      have e1' : decide (60 < p.dead.length) = false := by simp at e1 ⊢; omega
      cases e2 : decide ((60 : Int) < (p.rep.length : Int))
      case true =>
        have e2' : decide (60 < p.rep.length) = true := by simp at e2 ⊢; omega
        go_wp2_with fail
        go_ret
        exact Gr1Post.yes b1
      have e2' : decide (60 < p.rep.length) = false := by simp at e2 ⊢; omega
      cases e3 : decide ((60 : Int) < (p.shut.length : Int))
      case true =>
        have e3' : decide (60 < p.shut.length) = true := by simp at e3 ⊢; omega
        go_wp2_with fail
        go_ret
        exact Gr1Post.yes b1
      have e3' : decide (60 < p.shut.length) = false := by simp at e3 ⊢; omega
      cases e4 : decide ((2000 : Int) < (p.bad.size : Int))
      case true =>
        have e4' : decide (2000 < p.bad.size) = true := by simp at e4 ⊢; omega
        go_wp2_with fail
        go_ret
        exact Gr1Post.yes b1
      have e4' : decide (2000 < p.bad.size) = false := by simp at e4 ⊢; omega
      have hsm : Hid ((1 : Nat) = 1 → p.dead.length ≤ 60 ∧ p.rep.length ≤ 60 ∧ p.shut.length ≤ 60) := Lib.hid (fun _ => by simp at e1 e2 e3; omega)
      go_wp2_with fail
      go_roundw
      case rel => exact ⟨1, Nat.le_refl _, by go_num, hsm, (by first | rfl | trivial)⟩
      case measure => simp [intOf]
    · obtain rfl : k = 1 := by omega
      have hsm2 := Lib.hid (hsm.out rfl)
      clear c8 c9 c10 c11 hsm
      cases e1 : decide ((100 : Int) < (i.free.length : Int))
      case true =>
        have e1' : decide (100 < i.free.length) = true := by simp at e1 ⊢; omega
        go_wp2_with fail
        go_ret
        exact Gr1Post.yes b1
      have e1' : decide (100 < i.free.length) = false := by simp at e1 ⊢; omega
      cases e2 : decide ((100 : Int) < (i.out.length : Int))
      case true =>
        have e2' : decide (100 < i.out.length) = true := by simp at e2 ⊢; omega
        go_wp2_with fail
        go_ret
        exact Gr1Post.yes b1
      have e2' : decide (100 < i.out.length) = false := by simp at e2 ⊢; omega
      cases e3 : decide ((100 : Int) < (i.line.length : Int))
      case true =>
        have e3' : decide (100 < i.line.length) = true := by simp at e3 ⊢; omega
        go_wp2_with fail
        go_ret
        exact Gr1Post.yes b1
      have e3' : decide (100 < i.line.length) = false := by simp at e3 ⊢; omega
      have hfin : Hid (FewIn i p) := Lib.hid (by
        obtain ⟨h1, h2, h3⟩ := hsm2.out
        refine ⟨h1, h2, h3, ?_, ?_, ?_⟩ <;> (simp at e1 e2 e3; omega))
      go_wp2_with fail
      go_ret
      exact ⟨false, rfl, fun _ => hfin.out, b1⟩
end Go.Proofs.Ythjanhfjehccoaa
