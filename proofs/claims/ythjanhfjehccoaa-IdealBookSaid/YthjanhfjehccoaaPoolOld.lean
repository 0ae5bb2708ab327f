/-
  What a pool's old and closes compute. Conditions: rows of at most 200.
-/
import Derived.Test.YthjanhfjehccoaaPoolAll
namespace Go.Proofs.Ythjanhfjehccoaa
set_option linter.unusedVariables false
set_option linter.unusedSimpArgs false
open Go.RowKit

/-- The sockets of the spent ones. -/
def Pol.badL (x : Pol) (l : List Re) : List Int := (l.filter fun r => x.spentB r).map (·.1)
def Pol.fitL (x : Pol) (l : List Re) : List Re := l.filter fun r => !x.spentB r
theorem Pol.badL_len (x : Pol) (l : List Re) : (x.badL l).length ≤ l.length := by unfold Pol.badL; rw [List.length_map]; exact List.length_filter_le _ _
theorem Pol.fitL_len (x : Pol) (l : List Re) : (x.fitL l).length ≤ l.length := List.length_filter_le _ _
theorem Pol.old_eq (x : Pol) : x.old = ({ x with i := { x.i with free := x.fitL x.i.free } } : Pol).shuts (x.badL x.i.free) := rfl
theorem PlIs.shutLen [Inhabited Ex] {base g : Nat} {w : World} {x : Pol} {a : PlA} (h : PlIs base w g x a) : x.p.shut.length ≤ 1000 := h.few.2
set_option maxRecDepth 100000 in
set_option maxHeartbeats 4000000 in
theorem old_any [Inhabited Ex] (base g : Nat) (x : Pol) (a : PlA) (w : World) (h : PlIs base w g x a) (hn : x.p.shut.length + x.i.free.length ≤ 900) (hd : x.p.dead.length ≤ 1000) :
    Calls Try.prog 53 #[.pointer (some ⟨g, 0, none⟩)] w fun en w' => PlPost base g a x.old w en w' := by
  obtain ⟨fA, hfA⟩ : ∃ v, Hid (a.fA = v) := ⟨_, rfl⟩
  obtain ⟨n, hnl⟩ : ∃ n, Hid (x.i.free.length = n) := ⟨_, rfl⟩
  have c9 : w.cell? ⟨g, 9, none⟩ = some (.slice fA n a.fc) := by rw [← hfA.out, ← hnl.out]; exact h.row.cell rfl
  have HL : Stay (fun b => b ∉ plOwn g a) w (fun w'' => Res w'' w''.heap.size fA n x.i.free) := fun w'' hs hb => by rw [← hfA.out, ← hnl.out]; exact (h.lists w'' hs hb).1
  rw [hnl.out] at hn
  have hbase : base ≤ w.heap.size := Nat.le_trans h.gb (Nat.le_of_lt h.row.lt)
  go_enter Try.func53, Try.ntmps53
  go_wp2_with fail
  go_loopw [2, 11] (fun s2 s11 wr => ∃ (k m : Nat) (sA : Option Addr) (sc : Nat) (A : Option Addr) (c : Nat), k ≤ n ∧ m ≤ k ∧ s11 = .int .i64 k ∧ s2 = .slice A m c ∧ OwRe wr w.heap.size A m c (x.fitL (x.i.free.take k)) ∧ Hid (PlIs base wr g { x with p := { x.p with shut := x.p.shut ++ x.badL (x.i.free.take k) } } { a with sA := sA, sc := sc }) ∧ Hid (Below base w wr) ∧ Hid (Carry (plOwn g a) (plOwn g { a with sA := sA, sc := sc }) w wr)) (fun _ s11 _ => n - (intOf s11).toNat)
  case atStart => exact ⟨0, 0, a.sA, a.sc, none, 0, Nat.zero_le _, Nat.zero_le _, rfl, rfl, OwR.nil_ _ _ _ _, Lib.hid (by simpa [Pol.badL] using h), Lib.hid (Below.refl _ _), Lib.hid (carry_below (Below.refl _ _))⟩
  case round =>
    obtain ⟨k, m, sA, sc, A, c, hk, hm, rfl, rfl, ho, hp, hb, hc⟩ := hrel
    have hI := (HL.carry hc.out).at_
    have hwr : w.heap.size ≤ wr.heap.size := hc.out.1
    by_cases hlt : k < n
    · obtain ⟨b, off, y, rfl, hbb, hx, hc1, hc2⟩ := Res.cells hI hlt
      have hbl : (x.badL (x.i.free.take k)).length ≤ n := Nat.le_trans (x.badL_len _) (by rw [List.length_take]; have := hnl.out; omega)
      have hbN := Below.new_ wr (.cells #[.int .i64 y.1, .int .i64 y.2] 67)
      have hpN := hp.out.below hbN
      have hS := spent_any base g _ _ y _ hpN hd
      have hsb : ({ x with p := { x.p with shut := x.p.shut ++ x.badL (x.i.free.take k) } } : Pol).spentB y = x.spentB y := rfl
      rw [hsb] at hS
      have hfs : (x.badL (x.i.free.take (k + 1))) = x.badL (x.i.free.take k) ++ (if x.spentB y = true then [y.1] else []) := by
        rw [take_succ_of hx.out]; unfold Pol.badL; rw [List.filter_append, List.map_append]; congr 1; by_cases hy : x.spentB y = true <;> simp [hy]
      have hgs : (x.fitL (x.i.free.take (k + 1))) = x.fitL (x.i.free.take k) ++ (if x.spentB y = true then [] else [y]) := by
        rw [take_succ_of hx.out]; unfold Pol.fitL; rw [List.filter_append]; congr 1; by_cases hy : x.spentB y = true <;> simp [hy]
      clear hsb hI
      cases hsp : x.spentB y
      · rw [hsp] at hS hfs hgs
        simp only [Bool.false_eq_true, if_false, List.append_nil] at hfs hgs
        have HF := Lib.hid hfs
        have HG := Lib.hid hgs
        clear hfs hgs hsp HL
        go_upto_region 4 with fail
        go_wp2_with fail
        refine hS.mono ?_
        rintro e w2 ⟨rfl, hb2⟩
        have hk1 : w2.heap[wr.heap.size]? = some (.cells #[.int .i64 y.1, .int .i64 y.2] 67 (0, 0)) := (hb2.block wr.heap.size (by simp)).trans (heap_alloc_new wr _)
        have q0 : w2.cell? ⟨wr.heap.size, 0, none⟩ = some (.int .i64 y.1) := by simp [World.cell?, hk1]
        have q1 : w2.cell? ⟨wr.heap.size, 1, none⟩ = some (.int .i64 y.2) := by simp [World.cell?, hk1]
        have lw : wr.heap.size < w2.heap.size := by have := hb2.size; simp at this; omega
        have ho2 := OwR.below (OwR.below ho hbN) hb2
        have hp2 := hpN.below hb2
        have hb2' := hbN.trans (hb2.mono hbN.size)
        clear hS hbN hb2 hk1 hpN
        have hbM := Below.new_ w2 (.cells #[.int .i64 y.1, .int .i64 y.2] 67)
        have hp3 := hp2.below hbM
        have ho3 := OwR.below ho2 hbM
        go_wp2_with (at_builtin; refine wpList_appRe _ rfl (.tmp 23) (.tmp 25) rfl w.heap.size _ _ _ _ rfl ho3 _ _ _ _ [y] rfl (Res.new1 _ _ (by simp) y _) (by omega) (by have := hc.out.1; simp; omega) ?_; intro A3 c3 w3 ho4 hg4 hr4)
        have hC3 : Carry (plOwn g a) (plOwn g { a with sA := sA, sc := sc }) w (w2.alloc (.cells #[.int .i64 y.1, .int .i64 y.2] 67)) := (hc.out.trans (carry_below hb2')).trans (carry_below hbM)
        have hroff : ∀ q, rowOf A c = some q → q ∉ plOwn g { a with sA := sA, sc := sc } ∧ w.heap.size ≤ q := by
          intro q hq
          refine ⟨fun hin => ?_, (Ow.row ho.2 q hq).1⟩
          unfold plOwn at hin
          simp only [List.mem_cons, List.mem_append, Option.mem_toList, List.not_mem_nil, or_false] at hin
          rcases hin with rfl | hin | hin | hin
          · exact ow_off ho3.2 hp3.row (by decide) hq
          · rcases ow_apart ho3.2 hp3.rep.2 (by decide) with h1 | h1
            · rw [h1] at hq; cases hq
            · exact h1 (hq.trans (Option.mem_def.1 hin).symm)
          · rcases ow_apart ho3.2 hp3.sh (by decide) with h1 | h1
            · rw [h1] at hq; cases hq
            · exact h1 (hq.trans (Option.mem_def.1 hin).symm)
          · have h7 := (Ow.row ho.2 q hq).1
            have h8 := h.row.lt
            have h9 := h.gb
            rcases hin with hin | hin | hin
            · omega
            · omega
            · have := h.xlt _ hin
              omega
        obtain ⟨hp4, hc4⟩ := PlIs.regrow h hC3 hp3 (fun _ hl => hl) hg4 hroff
        have hb4 : Below base w w3 := ((hb.out.trans (hb2'.mono (by omega))).trans (hbM.mono (by omega))).grown hg4 (by have := hC3.1; omega) (fun q hq => Nat.le_trans hbase (hroff q hq).2)
        rw [← HG.out] at ho4
        have hp5 := Lib.hid hp4
        rw [← HF.out] at hp5
        clear hg4 hr4 q0 q1 hp3 ho3 hp2 ho2 hroff hC3 hp4
        go_wp2_with fail
        go_roundw
        case rel => exact ⟨k + 1, m + 1, sA, sc, A3, c3, by omega, by omega, by go_num, rfl, ho4, hp5, Lib.hid hb4, Lib.hid hc4⟩
        case measure => simp [intOf]; omega
      · rw [hsp] at hS hfs hgs
        simp only [if_true, List.append_nil] at hfs hgs
        have HF := Lib.hid hfs
        have HG := Lib.hid hgs
        clear hfs hgs hsp HL
        go_upto_region 4 with fail
        go_wp2_with fail
        refine hS.mono ?_
        rintro e w2 ⟨rfl, hb2⟩
        have hk1 : w2.heap[wr.heap.size]? = some (.cells #[.int .i64 y.1, .int .i64 y.2] 67 (0, 0)) := (hb2.block wr.heap.size (by simp)).trans (heap_alloc_new wr _)
        have q0 : w2.cell? ⟨wr.heap.size, 0, none⟩ = some (.int .i64 y.1) := by simp [World.cell?, hk1]
        have q1 : w2.cell? ⟨wr.heap.size, 1, none⟩ = some (.int .i64 y.2) := by simp [World.cell?, hk1]
        have lw : wr.heap.size < w2.heap.size := by have := hb2.size; simp at this; omega
        have ho2 := OwR.below (OwR.below ho hbN) hb2
        have hp2 := hpN.below hb2
        have hb2' := hbN.trans (hb2.mono hbN.size)
        clear hS hbN hb2 hk1 hpN
        have hbM := Below.new_ w2 (.cells #[.int .i64 y.1] 3)
        have hp3 := hp2.below hbM
        have ho3 := OwR.below ho2 hbM
        have hlen : (x.p.shut ++ x.badL (x.i.free.take k)).length + 1 ≤ 1000 := by rw [List.length_append]; omega
        have hsh := shuts_S base g _ _ (some ⟨w2.heap.size, 0, none⟩) 1 1 (w2.heap.size + 1) [y.1] _ hp3 (Ints.new1 w2 y.1 3) hlen
        go_wp2_with fail
        refine hsh.mono ?_
        rintro en w4 ⟨sA4, sc4, rfl, hp4, hb4, hc4⟩
        have e1 : ({ x with p := { x.p with shut := x.p.shut ++ x.badL (x.i.free.take k) } } : Pol).shuts [y.1] = { x with p := { x.p with shut := x.p.shut ++ x.badL (x.i.free.take (k + 1)) } } := by
          unfold Pol.shuts
          rw [HF.out]
          simp
        rw [e1] at hp4
        have hno : ∀ q, rowOf A c = some q → q ∉ plOwn g { a with sA := sA, sc := sc } := by
          intro q hq hin
          unfold plOwn at hin
          simp only [List.mem_cons, List.mem_append, Option.mem_toList, List.not_mem_nil, or_false] at hin
          rcases hin with rfl | hin | hin | hin
          · exact ow_off ho3.2 hp3.row (by decide) hq
          · rcases ow_apart ho3.2 hp3.rep.2 (by decide) with h1 | h1
            · rw [h1] at hq; cases hq
            · exact h1 (hq.trans (Option.mem_def.1 hin).symm)
          · rcases ow_apart ho3.2 hp3.sh (by decide) with h1 | h1
            · rw [h1] at hq; cases hq
            · exact h1 (hq.trans (Option.mem_def.1 hin).symm)
          · have h7 := (Ow.row ho.2 q hq).1
            have h8 := h.row.lt
            have h9 := h.gb
            rcases hin with hin | hin | hin
            · omega
            · omega
            · have := h.xlt _ hin
              omega
        have ho4 : OwRe w4 w.heap.size A m c (x.fitL (x.i.free.take k)) := ⟨ho3.1, Ow.block ho3.2 fun q hq => hc4.2.2 q (Ow.row ho3.2 q hq).2 (hno q hq)⟩
        rw [← HG.out] at ho4
        have hcc := ((hc.out.trans (carry_below hb2')).trans (carry_below hbM)).trans hc4
        have hbb4 := ((hb.out.trans (hb2'.mono (by omega))).trans (hbM.mono (by omega))).trans hb4
        clear hsh hno ho3 hp3 ho2 hp2 e1 q0 q1 hlen
        go_wp2_with fail
        go_roundw
        case rel => exact ⟨k + 1, m, sA4, sc4, A, c, by omega, by omega, by go_num, rfl, ho4, Lib.hid hp4, Lib.hid hbb4, Lib.hid hcc⟩
        case measure => simp [intOf]; omega
    · obtain rfl : k = n := by omega
      have ht : x.i.free.take k = x.i.free := List.take_of_length_le (by have := hnl.out; omega)
      rw [ht] at hp ho
      have hfl : (x.fitL x.i.free).length = m := ho.1
      have hA : A = none → c = 0 := fun e => by
        rcases ho.2.2.2.2 with h0 | ⟨q, cur, e2, _⟩
        · exact h0
        · rw [e] at e2; cases e2
      have hlists : Stay (fun b => b ∉ plOwn g { a with sA := sA, sc := sc }) wr (PlLists { x with p := { x.p with shut := x.p.shut ++ x.badL x.i.free }, i := { x.i with free := x.fitL x.i.free } } { a with sA := sA, sc := sc, fA := A, fc := c }) := by
        intro w'' hs hb
        have old := hp.out.lists w'' hs hb
        refine ⟨?_, old.2⟩
        show Res w'' w''.heap.size A (x.fitL x.i.free).length (x.fitL x.i.free)
        rw [hfl]
        cases hrw : rowOf A c with
        | none =>
          have hc0 : c = 0 := by
            rcases ho.2.2.2.2 with h0 | ⟨q, cur, e2, _⟩
            · exact h0
            · rw [e2] at hrw
              unfold rowOf at hrw
              split at hrw
              · assumption
              · cases hrw
          have hm0 : m = 0 := by have := ho.2.2.1; omega
          have : x.fitL x.i.free = [] := List.eq_nil_of_length_eq_zero (by omega)
          rw [this, hm0]
          exact Recs.nil_ _ _ _
        | some q =>
          refine ⟨hfl, stay_sl ho.2 hrw (fun hin => ?_) w'' hs hb⟩
          unfold plOwn at hin
          simp only [List.mem_cons, List.mem_append, Option.mem_toList, List.not_mem_nil, or_false] at hin
          rcases hin with rfl | hin | hin | hin
          · exact ow_off ho.2 hp.out.row (by decide) hrw
          · rcases ow_apart ho.2 hp.out.rep.2 (by decide) with h1 | h1
            · rw [h1] at hrw; cases hrw
            · exact h1 (hrw.trans (Option.mem_def.1 hin).symm)
          · rcases ow_apart ho.2 hp.out.sh (by decide) with h1 | h1
            · rw [h1] at hrw; cases hrw
            · exact h1 (hrw.trans (Option.mem_def.1 hin).symm)
          · have h7 := (Ow.row ho.2 q hrw).1
            have h8 := h.row.lt
            have h9 := h.gb
            rcases hin with hin | hin | hin
            · omega
            · omega
            · have := h.xlt _ hin
              omega
      obtain ⟨h3, hb3, hc3⟩ := hp.out.store (y := { x with p := { x.p with shut := x.p.shut ++ x.badL x.i.free }, i := { x.i with free := x.fitL x.i.free } }) (b := { a with sA := sA, sc := sc, fA := A, fc := c }) 9 (.slice A m c) (by unfold plCells; simp [hfl]) rfl rfl rfl rfl rfl rfl hlists
        ⟨⟨by show (x.fitL x.i.free).length ≤ c; rw [hfl]; exact ho.2.2.1, hA⟩, hp.out.caps.2⟩
      have f9 := hp.out.row.free 9
      have d9 := hp.out.row.cell (i := 9) rfl
      clear ht hI HL hlists
      go_wp2_with fail
      go_end0
      exact ⟨_, rfl, h3, hb.out.trans hb3, hc.out.trans hc3⟩
end Go.Proofs.Ythjanhfjehccoaa
