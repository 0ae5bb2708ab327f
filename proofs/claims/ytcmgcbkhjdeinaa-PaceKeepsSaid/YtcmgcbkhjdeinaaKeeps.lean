/-
  What pace.Keeps computes, as one contract over the translated program. Conditions: the history reads as a list of records, at most 1000 of them.
-/
import Derived.Test.YtcmgcbkhjdeinaaPace
import Derived.Test.YtcmgcbkhjdeinaaMap
import Derived.Deep.QuietTactic
import Derived.BigQuiet
import Derived.Deep.DeepCutAuto
import Derived.Deep.LoopGhost
namespace Go.Proofs.Ytcmgcbkhjdeinaa
open Go.RowKit

/-- When the attempts started, and which failed. -/
structure KS where
  starts : List Int
  bad : List Int
def keepsStep (stagger : Int) (s : KS) (x : Pc) : Option KS :=
  if x.fail = true then (if 0 ≤ x.n ∧ x.n < s.starts.length ∧ x.n ∉ s.bad then some ⟨s.starts, s.bad ++ [x.n]⟩ else none)
  else if x.n ≠ s.starts.length then none
  else if 0 < x.n ∧ (x.n - 1) ∉ s.bad ∧ oldB (s.starts.getD (x.n - 1).toNat 0) stagger x.at_ = false then none
  else some ⟨s.starts ++ [x.at_], s.bad⟩
def lateB (p : Option Int) (t : Int) : Bool := match p with | none => true | some q => decide (q ≤ t)
def keepsRun (stagger : Int) : KS → Option Int → List Pc → Bool
  | _, _, [] => true
  | s, p, x :: xs => lateB p x.at_ && (match keepsStep stagger s x with | none => false | some s' => keepsRun stagger s' (some x.at_) xs)
def keeps (stagger : Int) (l : List Pc) : Bool := keepsRun stagger ⟨[], []⟩ none l
def prevAt (l : List Pc) (k : Nat) : Option Int := if k = 0 then none else (l[k - 1]?).map (·.at_)
def badF (bad : List Int) : Value → Option Value
  | .int .i64 n => if n ∈ bad then some (.int .i64 1) else none
  | _ => none
theorem badF_snoc (bad : List Int) (n : Int) : ∀ x, putAt (badF bad) (.int .i64 n) (.int .i64 1) x = badF (bad ++ [n]) x := by
  intro x
  by_cases h : x = .int .i64 n
  · subst h; rw [putAt_same]; simp [badF]
  · rw [putAt_other _ _ h]
    cases x with
    | int q m =>
      cases q <;> try rfl
      have : m ≠ n := fun e => h (by rw [e])
      simp [badF, this]
    | _ => rfl
theorem drop_cons_of {α : Type} {l : List α} {k : Nat} {x : α} (h : l[k]? = some x) : l.drop k = x :: l.drop (k + 1) := by
  have hk := (List.getElem?_eq_some_iff.1 h).1
  rw [List.drop_eq_getElem_cons hk]
  congr 1
  exact (List.getElem?_eq_some_iff.1 h).2

def KInv (w : World) (stagger : Int) (l : List Pc) (n : Nat) (g : Nat) (s5 s7 s13 : Value) (wr : World) : Prop :=
  ∃ (k : Nat) (r bad : List Int) (A' : Option Addr) (c' : Nat), k + g = n ∧ r.length ≤ k ∧ s13 = .int .i64 k ∧ s7 = .bool true ∧ s5 = .slice A' r.length c' ∧ OwI wr (w.heap.size + 1) 3 A' r.length c' r ∧
    MapIs Try.prog 3 wr w.heap.size (badF bad) ∧ Below w.heap.size w wr ∧ w.heap.size + 1 ≤ wr.heap.size ∧ keeps stagger l = keepsRun stagger ⟨r, bad⟩ (prevAt l k) (l.drop k)

/-- Behind the look at the order of the ticks. -/
def KMid (w wr : World) (r bad : List Int) (A1 : Option Addr) (c1 : Nat) (x : Pc) (q : Bool) (s : Value) (wx : World) : Prop :=
  s = .bool q ∧ OwI wx (w.heap.size + 1) 3 A1 r.length c1 r ∧ MapIs Try.prog 3 wx w.heap.size (badF bad) ∧ Below w.heap.size w wx ∧ wr.heap.size + 1 ≤ wx.heap.size ∧
  wx.cell? ⟨wr.heap.size, 0, none⟩ = some (.bool x.fail) ∧ wx.cell? ⟨wr.heap.size, 1, none⟩ = some (.int .i64 x.n) ∧ wx.cell? ⟨wr.heap.size, 2, none⟩ = some (.int .i64 x.at_)
theorem KMid.mk_ {w wr : World} {r bad : List Int} {A1 : Option Addr} {c1 : Nat} {x : Pc} {q : Bool} {s : Value} (hs : s = .bool q) (e : TypeId) (nq : Nat) (ho : OwI wr (w.heap.size + 1) 3 A1 r.length c1 r)
    (hm : MapIs Try.prog 3 wr w.heap.size (badF bad)) (hb : Below w.heap.size w wr) :
    KMid w wr r bad A1 c1 x q s ((wr.alloc (.cells #[.bool x.fail, .int .i64 x.n, .int .i64 x.at_] e)).drewN nq) :=
  ⟨hs, ho.alloc _, hm.alloc _, ⟨hb.os, hb.tape, hb.output, by have := hb.size; simp; omega, fun k hk => (Below.heap_alloc wr _ k (by have := hb.size; omega)).trans (hb.block k hk)⟩, by simp, by simp, by simp, by simp⟩

theorem keyI (n : Int) (hw : (Lit.int .i64 n).wf = true) : keyOf Try.prog 3 (.int .i64 n) = some (.int .i64 n) := by
  have h : Try.prog.underlying 3 = some (.int .i64) := Try.underlying3
  simp [keyOf, h, mapKey, hw]
theorem KI : Go.Maps.Keyed Try.prog 3 := Go.Maps.int_keyed Try.underlying3
theorem zeroI (w : World) : (zeroValue 3).run Try.prog w = .ok (.int .i64 0) w := by kernel_rfl

set_option maxRecDepth 100000 in
set_option maxHeartbeats 2000000 in
theorem Keeps_any (stagger : Int) (A : Option Addr) (n c B : Nat) (l : List Pc) (w : World) (hl : Pcs w B A n l) (hB : B ≤ w.heap.size) (hn : n ≤ 1000) (hok : ∀ x ∈ l, (Lit.int .i64 x.n).wf = true) :
    Calls Try.prog 8 #[.int .i64 stagger, .slice A n c] w fun e w' => e = .returned (.bool (keeps stagger l)) ∧ Below w.heap.size w w' := by
  have HL := Lib.hid hl.len
  have HOK := Lib.hid hok
  clear hok
  have hmm := @run_makeMap Try.prog
  go_enter Try.func8, Try.ntmps8
  go_wp2
  go_step3
  go_wp2
  go_step3
  go_wp2
  go_loopg [5, 7, 13] n (fun g s5 s7 s13 wr => KInv w stagger l n g s5 s7 s13 wr)
  case atStart => exact ⟨0, [], [], none, 0, by omega, Nat.le_refl _, rfl, rfl, rfl, OwI.nil_ _ _ _ _, (MapIs.new w).congr (fun x => by cases x <;> first | rfl | (rename_i q m; cases q <;> simp [badF])), Below.new_ _ _, by simp, by simp [keeps, prevAt]⟩
  case round =>
    obtain ⟨k, r, bad, A1, c1, hkg, hrk, rfl, rfl, rfl, ho, hm, hb, hsz, hkeep⟩ := hrel
    have HK := Lib.hid hkeep
    clear hkeep hmm
    cases gk with
    | zero =>
      have hlt : ¬ k < n := by omega
      have hd0 : decide (k < n) = false := by simpa using hlt
      have hfin : keeps stagger l = true := by rw [HK.out, List.drop_of_length_le (by rw [HL.out]; omega)]; rfl
      have HF := Lib.hid hfin
      clear hfin
      go_wp2
      rw [Exit.noGoto_ret]
      go_ret
      exact ⟨ret_bool HF.out.symm, hb⟩
    | succ g =>
      have hlt : k < n := by omega
      obtain ⟨b, off, x, rfl, hbb, hx, hc0, hc1, hc2⟩ := Pcs.cells (hl.below' hb hB) hlt
      go_upto_region 8 with fail
      go_cut [23] (fun s23 wx => KMid w wr r bad A1 c1 x (!lateB (prevAt l k) x.at_) s23 wx)
      case first =>
        by_cases h0 : 0 < k
        · obtain ⟨b', off', y, hA, hbb', hy, hd0, hd1, hd2⟩ := Pcs.cells (hl.below' hb hB) (show k - 1 < n by omega)
          injection hA with hA
          injection hA with hA1 hA2
          subst hA1 hA2
          have hp : prevAt l k = some y.at_ := by unfold prevAt; rw [if_neg (by omega), hy.out]; rfl
          have hd : decide (0 < k) = true := by simpa using h0
          have hq : (!lateB (prevAt l k) x.at_) = decide (x.at_ < y.at_) := by
            rw [hp]
            by_cases hlt : x.at_ < y.at_
            · simp [lateB, hlt]
            · simp [lateB, hlt]; omega
          have HQ := Lib.hid hq
          clear hq hp
          have h01 : (1 : Int) ≤ (k : Int) := by omega
          have h02 : (0 : Int) ≤ (k : Int) - 1 := by omega
          have h03 : (k : Int) - 1 < (n : Int) := by omega
          have hw1 : IntKind.i64.wrap ((k : Int) - 1) = (k : Int) - 1 := IntWalk.i64_in _ (by omega)
          have hi1 : ((k : Int) - 1).toNat = k - 1 := by omega
          have hbs : b < wr.heap.size := by omega
          go_quiet (fail)
          go_wp2_with fail
          go_meet
          case rel => exact KMid.mk_ (by rw [HQ.out]) _ _ ho hm hb
        · have hd : decide (0 < k) = false := by simpa using h0
          have hq : (!lateB (prevAt l k) x.at_) = false := by unfold prevAt; rw [if_pos (by omega)]; rfl
          have HQ := Lib.hid hq
          have H0 := Lib.hid h0
          clear h0 hq
          go_quiet (fail)
          go_wp2_with fail
          go_meet
          case rel => exact KMid.mk_ (by rw [HQ.out]) _ _ ho hm hb
      case rest =>
        clear hc0 hc1 hc2 ho hm hb
        obtain ⟨rfl, ho, hm, hb, hsw, hx0, hx1, hx2⟩ := hcut
        have hxm := List.mem_of_getElem? hx.out
        have hwf := HOK.out x hxm
        clear hxm
        have hrun := HK.out
        rw [drop_cons_of hx.out] at hrun
        unfold keepsRun at hrun
        have HR := Lib.hid hrun
        clear hrun HK
        have hkey := keyI x.n hwf
        cases hlate : lateB (prevAt l k) x.at_
        · -- earlier than the one ahead of it
          have hfin : keeps stagger l = false := by rw [HR.out, hlate]; rfl
          have HF := Lib.hid hfin
          clear hfin
          go_wp2
          rw [Exit.noGoto_ret]
          go_ret
          exact ⟨ret_bool HF.out.symm, hb⟩
        · cases hf : x.fail
          · -- an attempt starts
            rw [hf] at hx0
            by_cases hne : x.n = (r.length : Int)
            · have hd0 : (x.n != (r.length : Int)) = false := by simpa using hne
              have HNE := Lib.hid hne
              clear hne hkey
              go_upto_region 15 with fail
              go_cut [68] (fun s68 wx => KMid w wr r bad A1 c1 x (decide (0 < x.n ∧ (x.n - 1) ∉ bad ∧ oldB (r.getD (x.n - 1).toNat 0) stagger x.at_ = false)) s68 wx)
              case first =>
                have hmid : ∀ (q : Bool) (nq : Nat), KMid w wr r bad A1 c1 x q (.bool q) (wc.drewN nq) := fun q nq => ⟨rfl, ho, hm, ⟨hb.os, hb.tape, hb.output, hb.size, hb.block⟩, hsw, by rw [hf]; exact hx0, hx1, hx2⟩
                by_cases h1 : 0 < x.n
                · have hd1 : decide (0 < x.n) = true := by simpa using h1
                  have h3 : (1 : Int) ≤ x.n := by omega
                  have h4 : (0 : Int) ≤ x.n - 1 := by omega
                  have h2 : x.n - 1 < (r.length : Int) := by have := HNE.out; omega
                  have hw1 : IntKind.i64.wrap (x.n - 1) = x.n - 1 := IntWalk.i64_in _ (by have := HNE.out; omega)
                  have hkey := keyI (x.n - 1) (WalkArith.wf_i64 (by have := HNE.out; omega))
                  by_cases hmem : x.n - 1 ∈ bad
                  · have hlk : ∀ nq, (Instr.lookup 44 (.map (some w.heap.size)) (.int .i64 (x.n - 1)) false).run Try.prog (wc.drewN nq) = .ok (.int .i64 1) (wc.drewN nq) := fun nq => by
                      have := run_lookup_MapIs KI Try.underlying44 (zeroI _) (hm.drewN nq) hkey false
                      simpa [badF, hmem] using this
                    have hq : decide (0 < x.n ∧ (x.n - 1) ∉ bad ∧ oldB (r.getD (x.n - 1).toNat 0) stagger x.at_ = false) = false := by simp [hmem]
                    have HQ := Lib.hid hq
                    have HM := Lib.hid hmem
                    have HMID := Lib.hid hmid
                    clear hq hmem hmid
                    go_quiet (fail)
                    go_wp2_with fail
                    go_meet
                    case rel => rw [HQ.out]; exact HMID.out _ _
                  · have hlk : ∀ nq, (Instr.lookup 44 (.map (some w.heap.size)) (.int .i64 (x.n - 1)) false).run Try.prog (wc.drewN nq) = .ok (.int .i64 0) (wc.drewN nq) := fun nq => by
                      have := run_lookup_MapIs KI Try.underlying44 (zeroI _) (hm.drewN nq) hkey false
                      simpa [badF, hmem] using this
                    obtain ⟨gb, go, y, rfl, _, hy, hcy⟩ := ho.ints.at_ (show (x.n - 1).toNat < r.length by omega)
                    have hcy2 : wc.cell? ⟨gb, go + (x.n.toNat - 1), none⟩ = some (.int .i64 y) := by
                      have e : (x.n - 1).toNat = x.n.toNat - 1 := by omega
                      rw [← e]; exact hcy
                    have hq : decide (0 < x.n ∧ (x.n - 1) ∉ bad ∧ oldB (r.getD (x.n - 1).toNat 0) stagger x.at_ = false) = !oldB y stagger x.at_ := by
                      have e : r.getD (x.n - 1).toNat 0 = y := by rw [List.getD_eq_getElem?_getD, hy.out]; rfl
                      rw [e]
                      cases oldB y stagger x.at_ <;> simp [hmem, h1]
                    have HQ := Lib.hid hq
                    have HM := Lib.hid hmem
                    have HMID := Lib.hid hmid
                    clear hq hmem hmid
                    go_quiet ((go_at_call 16; exact quiet_eq (Old_any _ _ _ _)))
                    go_wp2_with fail
                    go_meet
                    case rel => rw [HQ.out]; exact HMID.out _ _
                · have hd1 : decide (0 < x.n) = false := by simpa using h1
                  have hq : decide (0 < x.n ∧ (x.n - 1) ∉ bad ∧ oldB (r.getD (x.n - 1).toNat 0) stagger x.at_ = false) = false := by simp [h1]
                  have HQ := Lib.hid hq
                  have H1 := Lib.hid h1
                  have HMID := Lib.hid hmid
                  clear hq h1 hmid
                  go_quiet (fail)
                  go_wp2_with fail
                  go_meet
                  case rel => rw [HQ.out]; exact HMID.out _ _
              case rest =>
                clear ho hm hb hsw hx0 hx1 hx2
                obtain ⟨rfl, ho, hm, hb, hsw, hx0, hx1, hx2⟩ := hcut
                by_cases hsoon : 0 < x.n ∧ (x.n - 1) ∉ bad ∧ oldB (r.getD (x.n - 1).toNat 0) stagger x.at_ = false
                · rw [decide_eq_true hsoon]
                  have hfin : keeps stagger l = false := by
                    have hs : keepsStep stagger ⟨r, bad⟩ x = none := by unfold keepsStep; rw [if_neg (by rw [hf]; decide), if_neg (by intro h; exact h HNE.out), if_pos hsoon]
                    rw [HR.out, hlate, hs]; rfl
                  have HF := Lib.hid hfin
                  clear hfin hsoon
                  go_wp2
                  rw [Exit.noGoto_ret]
                  go_ret
                  exact ⟨ret_bool HF.out.symm, hb⟩
                · rw [decide_eq_false hsoon]
                  have hgo : keeps stagger l = keepsRun stagger ⟨r ++ [x.at_], bad⟩ (prevAt l (k + 1)) (l.drop (k + 1)) := by
                    have hs : keepsStep stagger ⟨r, bad⟩ x = some ⟨r ++ [x.at_], bad⟩ := by unfold keepsStep; rw [if_neg (by rw [hf]; decide), if_neg (by intro h; exact h HNE.out), if_neg hsoon]
                    have e : prevAt l (k + 1) = some x.at_ := by unfold prevAt; rw [if_neg (by omega), Nat.add_sub_cancel, hx.out]; rfl
                    rw [HR.out, hlate, hs, e]; rfl
                  have HG := Lib.hid hgo
                  clear hgo hsoon
                  go_wp2_with (at_builtin; refine wpList_appI _ rfl (.tmp 18) (.tmp 21) rfl (w.heap.size + 1) _ _ _ _ rfl (ho.alloc _) _ _ _ _ _ rfl (Ints.at1_ _ _ _ _ (by simp)) (by omega) (by simp; omega) ?_; intro A2 c2 w2 ho2 hg2 hr2)
                  go_roundg g
                  case measure => omega
                  case rel =>
                    have hrow : some w.heap.size ≠ rowOf A1 c1 := by
                      intro e
                      have := ho.row _ e.symm
                      omega
                    exact ⟨k + 1, r ++ [x.at_], bad, A2, c2, by omega, by simp; omega, by go_num, rfl, by simp, by simpa using ho2, (hm.alloc _).grown hg2 hrow, (hb.alloc hb.size _).grown hg2 (by have := hb.size; simp; omega) (fun q hq => by have := ho.row q hq; omega), by have := hg2.size; simp at this; omega, HG.out⟩
            · have hd0 : (x.n != (r.length : Int)) = true := by simpa using hne
              have hfin : keeps stagger l = false := by
                have hs : keepsStep stagger ⟨r, bad⟩ x = none := by unfold keepsStep; rw [if_neg (by rw [hf]; decide), if_pos hne]
                rw [HR.out, hlate, hs]; rfl
              have HF := Lib.hid hfin
              clear hfin hne
              go_wp2
              rw [Exit.noGoto_ret]
              go_ret
              exact ⟨ret_bool HF.out.symm, hb⟩
          · -- it failed
            rw [hf] at hx0
            by_cases hmem : x.n ∈ bad
            · have hlk : (Instr.lookup 44 (.map (some w.heap.size)) (.int .i64 x.n) false).run Try.prog wc = .ok (.int .i64 1) wc := by
                have := run_lookup_MapIs KI Try.underlying44 (zeroI wc) hm hkey false
                simpa [badF, hmem] using this
              obtain ⟨w2, hst, hm2, hg2, hs2⟩ := run_store_MapIs KI Try.underlying44 hm hkey (.int .i64 2)
              have hfin : keeps stagger l = false := by rw [HR.out, hlate]; simp [keepsStep, hf, hmem]
              have HF := Lib.hid hfin
              clear hfin hm2 hs2
              rcases (by omega : x.n < 0 ∨ (0 ≤ x.n ∧ (r.length : Int) ≤ x.n) ∨ (0 ≤ x.n ∧ x.n < (r.length : Int))) with h1 | ⟨h1, h2⟩ | ⟨h1, h2⟩
              · have hd1 : decide (0 ≤ x.n) = false := by simpa using h1
                go_wp2
                rw [Exit.noGoto_ret]
                go_ret
                exact ⟨ret_bool HF.out.symm, hb.grown hg2 hb.size (by intro q hq; injection hq with hq; omega)⟩
              · have hd1 : decide (0 ≤ x.n) = true := by simpa using h1
                have hd2 : decide (x.n < (r.length : Int)) = false := by simpa using h2
                go_wp2
                rw [Exit.noGoto_ret]
                go_ret
                exact ⟨ret_bool HF.out.symm, hb.grown hg2 hb.size (by intro q hq; injection hq with hq; omega)⟩
              · have hd1 : decide (0 ≤ x.n) = true := by simpa using h1
                have hd2 : decide (x.n < (r.length : Int)) = true := by simpa using h2
                go_wp2
                rw [Exit.noGoto_ret]
                go_ret
                exact ⟨ret_bool HF.out.symm, hb.grown hg2 hb.size (by intro q hq; injection hq with hq; omega)⟩
            · have hlk : (Instr.lookup 44 (.map (some w.heap.size)) (.int .i64 x.n) false).run Try.prog wc = .ok (.int .i64 0) wc := by
                have := run_lookup_MapIs KI Try.underlying44 (zeroI wc) hm hkey false
                simpa [badF, hmem] using this
              obtain ⟨w2, hst, hm2, hg2, hs2⟩ := run_store_MapIs KI Try.underlying44 hm hkey (.int .i64 1)
              rcases (by omega : x.n < 0 ∨ (0 ≤ x.n ∧ (r.length : Int) ≤ x.n) ∨ (0 ≤ x.n ∧ x.n < (r.length : Int))) with h1 | ⟨h1, h2⟩ | ⟨h1, h2⟩
              · have hfin : keeps stagger l = false := by
                  have hs : keepsStep stagger ⟨r, bad⟩ x = none := by unfold keepsStep; rw [if_pos hf, if_neg (by rintro ⟨a, b, _⟩; simp only at b; omega)]
                  rw [HR.out, hlate, hs]; rfl
                have HF := Lib.hid hfin
                clear hfin hm2 hs2
                have hd1 : decide (0 ≤ x.n) = false := by simpa using h1
                go_wp2
                rw [Exit.noGoto_ret]
                go_ret
                exact ⟨ret_bool HF.out.symm, hb.grown hg2 hb.size (by intro q hq; injection hq with hq; omega)⟩
              · have hfin : keeps stagger l = false := by
                  have hs : keepsStep stagger ⟨r, bad⟩ x = none := by unfold keepsStep; rw [if_pos hf, if_neg (by rintro ⟨a, b, _⟩; simp only at b; omega)]
                  rw [HR.out, hlate, hs]; rfl
                have HF := Lib.hid hfin
                clear hfin hm2 hs2
                have hd1 : decide (0 ≤ x.n) = true := by simpa using h1
                have hd2 : decide (x.n < (r.length : Int)) = false := by simpa using h2
                go_wp2
                rw [Exit.noGoto_ret]
                go_ret
                exact ⟨ret_bool HF.out.symm, hb.grown hg2 hb.size (by intro q hq; injection hq with hq; omega)⟩
              · have hd1 : decide (0 ≤ x.n) = true := by simpa using h1
                have hd2 : decide (x.n < (r.length : Int)) = true := by simpa using h2
                have hgo : keeps stagger l = keepsRun stagger ⟨r, bad ++ [x.n]⟩ (prevAt l (k + 1)) (l.drop (k + 1)) := by
                  rw [HR.out, hlate]
                  have e : prevAt l (k + 1) = some x.at_ := by unfold prevAt; rw [if_neg (by omega), Nat.add_sub_cancel, hx.out]; rfl
                  rw [e]
                  simp [keepsStep, hf, hmem, h1, h2]
                have HG := Lib.hid hgo
                have hm3 := hm2.congr (badF_snoc bad x.n)
                have hrow : rowOf A1 c1 = none ∨ rowOf A1 c1 ≠ some w.heap.size := by
                  cases hq : rowOf A1 c1 with
                  | none => exact .inl rfl
                  | some q => right; intro e; injection e with e; have := ho.row q hq; omega
                have ho3 : OwI w2 (w.heap.size + 1) 3 A1 r.length c1 r := Ow.kept ho hg2 hrow
                have hb3 := hb.grown hg2 hb.size (by intro q hq; injection hq with hq; omega)
                clear hgo hm2 hm hg2
                go_wp2
                go_roundg g
                case measure => omega
                case rel => exact ⟨k + 1, r, bad ++ [x.n], A1, c1, by omega, by omega, by go_num, rfl, rfl, ho3, hm3, hb3, by omega, HG.out⟩
end Go.Proofs.Ytcmgcbkhjdeinaa
