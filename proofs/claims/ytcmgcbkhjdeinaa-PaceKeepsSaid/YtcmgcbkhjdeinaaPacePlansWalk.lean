/-
  The walk of the statement PacePlans: it returns true and writes nothing that was there. Conditions: none.
-/
import Derived.Test.YtcmgcbkhjdeinaaPaceLaws
import Derived.Test.YtcmgcbkhjdeinaaAgeRef
namespace Go.Proofs.Ytcmgcbkhjdeinaa
open Go.RowKit

theorem infoP : (Try.prog.info? 24).map (fun i => (i.zero, i.size, i.bytes)) = some (some (.agg #[.bool false, .int .i64 0, .int .i64 0]), 3, 24) := by kernel_rfl

theorem encPc_oneCell (l : List Pc) : ∀ u ∈ l.flatMap encPc, u.oneCell' = true := by
  intro u hu
  obtain ⟨x, _, hx⟩ := List.mem_flatMap.1 hu
  simp only [encPc, List.mem_cons, List.not_mem_nil, or_false] at hx
  rcases hx with rfl | rfl | rfl <;> rfl

abbrev OwP (w : World) (base : Nat) (A : Option Addr) (n c : Nat) (xs : List Pc) : Prop := OwR encPc 3 w base 24 A n c xs

theorem wpList_appP (w : World) {ops : Array Oper} {rest : List Oper} {o : Oper} {a : Act} {Q : Exit → Act → World → Prop} (hgd : o.guard = none) (s x : Operand)
    (ho : o.op = .call { callee := .builtin .append, args := #[s, x], argTypes := #[28, 28] })
    (base : Nat) (A : Option Addr) (n c : Nat) (l : List Pc) (hsv : a.eval s = .slice A n c) (hown : OwP w base A n c l)
    (B : Nat) (A2 : Option Addr) (m c2 : Nat) (l2 : List Pc) (hxv : a.eval x = .slice A2 m c2) (hs : Pcs w B A2 m l2) (hb : n + m ≤ 1000000) (hbase : base ≤ w.heap.size)
    (h : ∀ A' c' w', OwP w' base A' (n + m) c' (l ++ l2) → w.grownBy w' (rowOf A c) → (rowOf A' c' = rowOf A c ∨ (rowOf A' c' = some w.heap.size ∧ 0 < m)) →
      wpList Try.prog ops Q rest (a.put o.dst (.slice A' (n + m) c')) w') : wpList Try.prog ops Q (o :: rest) a w := by
  obtain ⟨i0, hi0, hz0, hz1, hz2⟩ := info_parts infoP
  refine wpList_append_Ow w hgd s x 28 ho base 24 i0 _ 3 24 Try.underlying28 hi0 hz0 hz1 hz2 rfl (by decide) A n c _ hsv hown.2 B A2 m c2 _ hxv hs.2 (encPc_oneCell _) (by unfold maxLen; omega) (by omega) hbase ?_
  intro A' c' w' h1 h2 h3
  exact h A' c' w' ⟨by rw [List.length_append, hown.1, hs.1], by rw [List.flatMap_append]; exact h1⟩ h2 h3

def pcsFrom : Nat → List Int → List Pc
  | _, [] => []
  | i, x :: xs => ⟨false, i, x⟩ :: pcsFrom (i + 1) xs
theorem pcsFrom_snoc : ∀ (xs : List Int) (i : Nat) (y : Int), pcsFrom i (xs ++ [y]) = pcsFrom i xs ++ [⟨false, ((i + xs.length : Nat) : Int), y⟩]
  | [], i, y => rfl
  | x :: xs, i, y => by
    show ⟨false, (i : Int), x⟩ :: pcsFrom (i + 1) (xs ++ [y]) = ⟨false, (i : Int), x⟩ :: (pcsFrom (i + 1) xs ++ _)
    rw [pcsFrom_snoc xs (i + 1) y]
    congr 4
    simp; omega
theorem pcsFrom_len : ∀ (xs : List Int) (i : Nat), (pcsFrom i xs).length = xs.length
  | [], _ => rfl
  | x :: xs, i => by show (pcsFrom (i + 1) xs).length + 1 = _; rw [pcsFrom_len xs]; rfl
theorem pcsFrom_starts : ∀ (xs : List Int) (i : Nat), starts (pcsFrom i xs) = xs
  | [], _ => rfl
  | x :: xs, i => by
    have := pcsFrom_starts xs (i + 1)
    unfold starts at this ⊢
    show (List.filter (fun x => !x.fail) (⟨false, (i : Int), x⟩ :: pcsFrom (i + 1) xs)).map (·.at_) = _
    rw [List.filter_cons]
    simp [this]
theorem pcsFrom_ok : ∀ (xs : List Int) (i : Nat), i + xs.length ≤ 1000 → ∀ x ∈ pcsFrom i xs, (Lit.int .i64 x.n).wf = true
  | [], _, _ => by simp [pcsFrom]
  | y :: ys, i, h => by
    intro x hx
    rcases List.mem_cons.1 hx with rfl | hx
    · exact WalkArith.wf_i64 (by simp at h ⊢; omega)
    · exact pcsFrom_ok ys (i + 1) (by simp at h; omega) x hx

theorem plan_keeps (s s' : Int) (hs : s' ≤ s) : ∀ (m : Nat) (r : List Int) (q : Int), 0 ≤ q → q ≤ 1073741824 → keepsRun s' ⟨r ++ [q], []⟩ (some q) (pcsFrom (r.length + 1) (planL m (later q [s]) s)) = true
  | 0, _, _, _, _ => rfl
  | m + 1, r, q, h0, h1 => by
    have hx : later q [s] = clamp (q + clamp s) := by
      show clamp (clamp q + clamp s) = _
      rw [clamp_of h0 h1]
    have hbd := later_bd q [s]
    have hle : q ≤ later q [s] := by rw [hx]; unfold clamp; omega
    have hold : oldB q s' (later q [s]) = true := by
      rw [hx]; unfold oldB; rw [clamp_of h0 h1]; unfold clamp; simp; omega
    show keepsRun s' ⟨r ++ [q], []⟩ (some q) (⟨false, ((r.length + 1 : Nat) : Int), later q [s]⟩ :: pcsFrom (r.length + 1 + 1) (planL m (later (later q [s]) [s]) s)) = true
    have hstep : keepsStep s' ⟨r ++ [q], []⟩ ⟨false, ((r.length + 1 : Nat) : Int), later q [s]⟩ = some ⟨r ++ [q] ++ [later q [s]], []⟩ := by
      unfold keepsStep
      have hg : (r ++ [q]).getD (((r.length + 1 : Nat) : Int) - 1).toNat 0 = q := by
        have : (((r.length + 1 : Nat) : Int) - 1).toNat = r.length := by omega
        rw [this]; simp [List.getD]
      rw [if_neg (by simp), if_neg (by simp), if_neg (by rintro ⟨_, _, h⟩; rw [hg, hold] at h; cases h)]
    have ih := plan_keeps s s' hs m (r ++ [q]) (later q [s]) hbd.1 hbd.2
    rw [List.length_append, List.length_singleton] at ih
    unfold keepsRun
    rw [hstep]
    simp only [lateB, hle, decide_true, Bool.true_and]
    exact ih
theorem plan_keeps0 (n from_ s s' : Int) (hs : s' ≤ s) : keeps s' (pcsFrom 0 (plan n from_ s)) = true := by
  unfold keeps plan
  have hb := clamp_bd from_
  cases planN n with
  | zero => rfl
  | succ m =>
    have := plan_keeps s s' hs m [] (clamp from_) hb.1 hb.2
    show keepsRun s' ⟨[], []⟩ none (⟨false, 0, clamp from_⟩ :: pcsFrom 1 (planL m (later (clamp from_) [s]) s)) = true
    unfold keepsRun
    have hstep : keepsStep s' ⟨[], []⟩ ⟨false, 0, clamp from_⟩ = some ⟨[] ++ [clamp from_], []⟩ := by simp [keepsStep]
    rw [hstep]
    simpa [lateB] using this
theorem planL_at : ∀ (m i : Nat) (t s : Int), i < m → (planL m t s)[i]? = some (planAt i t s)
  | m + 1, 0, t, s, _ => rfl
  | m + 1, i + 1, t, s, h => by
    show (planL m (later t [s]) s)[i]? = _
    rw [planL_at m i _ _ (by omega)]
    rfl
theorem planAt_bd : ∀ (i : Nat) (t s : Int), 0 ≤ t → t ≤ 1073741824 → 0 ≤ planAt i t s ∧ planAt i t s ≤ 1073741824
  | 0, _, _, h0, h1 => ⟨h0, h1⟩
  | i + 1, t, s, _, _ => planAt_bd i (later t [s]) s (later_bd t [s]).1 (later_bd t [s]).2

theorem When_yes (started total since stagger : Int) (w : World) (h1 : 0 < started) (h2 : started < total) :
    Calls Try.prog 15 #[.int .i64 started, .int .i64 total, .int .i64 since, .int .i64 stagger] w fun e w' => e = .returned (.tuple #[.int .i64 (later since [stagger]), .bool true]) ∧ Below w.heap.size w w' := by
  refine (When_any started total since stagger w).mono ?_
  rintro e w' ⟨rfl, hb⟩
  have hm : whenOk started total = true := by simp [whenOk, h1, h2]
  rw [hm]
  exact ⟨rfl, hb⟩

def PlansInv (wp : World) (P : List Int) (m : Nat) (s10 s11 : Value) (wr : World) : Prop :=
  ∃ (k : Nat) (r : List Pc) (A' : Option Addr) (c' : Nat), k ≤ m ∧ r = pcsFrom 0 (P.take k) ∧ r.length = k ∧ s11 = .int .i64 k ∧ s10 = .slice A' k c' ∧ OwP wr wp.heap.size A' k c' r ∧ Below wp.heap.size wp wr

set_option maxRecDepth 100000 in
set_option maxHeartbeats 2000000 in
theorem PacePlans_mid (n from_ stagger less : Int) (m : Nat) (w : World) (hm : m = planN n) (h : 0 ≤ n) (h1 : n ≤ 8) (h2 : (m : Int) = n) :
    Calls Try.prog 6 #[.int .i64 n, .int .i64 from_, .int .i64 stagger, .int .i64 less] w fun e w' => e = .returned (.bool true) ∧ Below w.heap.size w w' := by
  have hm8 : m ≤ 8 := by rw [hm]; unfold planN; omega
  have HM := Lib.hid hm
  clear hm
  have HPL : Hid (plan n from_ stagger = planL m (clamp from_) stagger) := by show _ = _; rw [HM.out]; rfl
  have hcl := clamp_bd from_
  have hne : ((m : Int) != n) = false := by simpa using h2
  have H2 := Lib.hid h2
  clear h2
  go_enter Try.func6, Try.ntmps6
  go_wp2_with fail
  refine (Plan_any _ _ _ _).mono ?_
  rintro e wp ⟨A1, c1, rfl, ho, hbp⟩
  rw [← HM.out] at *
  rw [HPL.out] at ho
  have hp := ho.ints
  obtain ⟨P, hP⟩ : ∃ P, P = planL m (clamp from_) stagger := ⟨_, rfl⟩
  rw [← hP] at hp
  have HP := Lib.hid hP
  have hPl : Hid (P.length = m) := hp.len
  clear hP ho
  go_wp2_with fail
  go_loopw [10, 11] (fun s10 s11 wr => PlansInv wp P m s10 s11 wr) (fun _ s11 _ => m - (intOf s11).toNat)
  case atStart => exact ⟨0, [], none, 0, Nat.zero_le _, rfl, rfl, rfl, rfl, OwR.nil_ _ _ _ _, Below.refl _ _⟩
  case round =>
    obtain ⟨k, r, A2, c2, hk, hr, hrl, rfl, rfl, ho, hb⟩ := hrel
    have HR := Lib.hid hr
    have HRL := Lib.hid hrl
    clear hr hrl
    by_cases hlt : k < m
    · obtain ⟨b, off, x, rfl, hbb, hx, hcx⟩ := (hp.below hb).at_ hlt
      have hxv : x = planAt k (clamp from_) stagger := by have := hx.out; rw [HP.out, planL_at _ _ _ _ hlt] at this; injection this with this; exact this.symm
      have HXV := Lib.hid hxv
      clear hxv
      have HR2 : Hid (r ++ [⟨false, (k : Int), x⟩] = pcsFrom 0 (P.take (k + 1))) := by
        show _ = _
        rw [take_succ_of hx.out, pcsFrom_snoc, HR.out, List.length_take, Nat.min_eq_left (by rw [hPl.out]; omega)]
        simp
      rcases Nat.eq_zero_or_pos k with h0 | h0
      · have hz : ((k : Int) == 0) = true := by simp; omega
        have hcx0 : wr.cell? ⟨b, off, none⟩ = some (.int .i64 x) := by rw [h0] at hcx; exact hcx
        have h0m : 0 < m := by omega
        have hxc : (x != clamp from_) = false := by rw [HXV.out, h0]; simp [planAt]
        have hxc2 : (x == clamp from_) = true := by rw [HXV.out, h0]; simp [planAt]
        have H0 := Lib.hid h0
        clear h0
        go_wp2_with (at_builtin; refine wpList_appP _ rfl (.tmp 30) (.tmp 37) rfl wp.heap.size _ _ _ _ rfl (ho.alloc _) _ _ _ _ _ rfl (Pcs.new1 _ _ (by simp) ⟨false, (k : Int), x⟩ _) (by omega) (by have := hb.size; simp; omega) ?_; intro A3 c3 w3 ho3 hg3 hr3; have hb3 := (hb.alloc hb.size _).grown hg3 (by have := hb.size; simp; omega) (fun q hq => (ho.2.row q hq).1); have hy0 : w3.cell? ⟨b, off, none⟩ = some (.int .i64 x) := (hp.below hb3).cell (i := 0) (by have := hx.out; rw [H0.out] at this; exact this))
        go_quiet ((go_at_call 14; exact quiet_eq (rClamp_any _ _)))
        go_wp2_with fail
        go_roundw
        case rel => exact ⟨k + 1, r ++ [⟨false, (k : Int), x⟩], A3, c3, by omega, HR2.out, by simp [HRL.out], by go_num, rfl, OwR.drewN ho3 _, ⟨hb3.os, hb3.tape, hb3.output, hb3.size, hb3.block⟩⟩
        case measure => simp [intOf]; omega
      · have hz : ((k : Int) == 0) = false := by simp; omega
        obtain ⟨y, hy⟩ : ∃ y, P[k - 1]? = some y := ⟨_, List.getElem?_eq_getElem (by rw [hPl.out]; omega)⟩
        have hyv : y = planAt (k - 1) (clamp from_) stagger := by have := hy; rw [HP.out, planL_at _ _ _ _ (by omega)] at this; injection this with this; exact this.symm
        have hxy : x = later y [stagger] := by rw [HXV.out, hyv, ← planAt_succ, Nat.sub_add_cancel (by omega)]
        have hne1 : (later y [stagger] != x) = false := by rw [hxy]; simp
        have hne2 : (later y [stagger] == x) = true := by rw [hxy]; simp
        have hbd := planAt_bd (k - 1) (clamp from_) stagger hcl.1 hcl.2
        rw [← hyv] at hbd
        have hmay : mayB (k : Int) (m : Int) false y stagger (later y [stagger]) = true := by
          have h9 : oldB y stagger (later y [stagger]) = true := by
            show oldB y stagger (clamp (clamp y + clamp stagger)) = true
            rw [clamp_of hbd.1 hbd.2]; unfold oldB; rw [clamp_of hbd.1 hbd.2]; unfold clamp; simp; omega
          simp [mayB, h9]; omega
        have HY := Lib.hid hy
        have HXY := Lib.hid hxy
        have HYV := Lib.hid hyv
        have HHP := Lib.hid hp
        clear hy hxy hyv hbd
        have h11 : (1 : Int) ≤ (k : Int) := by omega
        have h12 : (0 : Int) ≤ (k : Int) - 1 := by omega
        have h13 : (k : Int) - 1 < (m : Int) := by omega
        have hlti : (k : Int) < (m : Int) := by omega
        have h0i : (0 : Int) < (k : Int) := by omega
        go_wp2_with (at_builtin; refine wpList_appP _ rfl (.tmp 30) (.tmp 37) rfl wp.heap.size _ _ _ _ rfl (ho.alloc _) _ _ _ _ _ rfl (Pcs.new1 _ _ (by simp) ⟨false, (k : Int), x⟩ _) (by omega) (by have := hb.size; simp; omega) ?_; intro A3 c3 w3 ho3 hg3 hr3; have hb3 := (hb.alloc hb.size _).grown hg3 (by have := hb.size; simp; omega) (fun q hq => (ho.2.row q hq).1); have hy0 : w3.cell? ⟨b, off + (k - 1), none⟩ = some (.int .i64 y) := (HHP.out.below hb3).cell HY.out)
        refine (When_yes _ _ _ _ _ h0i hlti).mono ?_
        rintro e w4 ⟨rfl, hb4⟩
        have hb5 : Below wp.heap.size wp w4 := hb3.trans (hb4.mono hb3.size)
        have hx4 : w4.cell? ⟨b, off + k, none⟩ = some (.int .i64 x) := (HHP.out.below hb5).cell hx.out
        have hy4 : w4.cell? ⟨b, off + (k - 1), none⟩ = some (.int .i64 y) := (HHP.out.below hb5).cell HY.out
        have ho4 := ho3.below hb4
        clear hb4 hb3 hg3 hr3 hy0 ho3 ho hb hcx
        go_wp2_with (go_at_call 9; refine (May_any _ _ _ _ _ _ _).mono ?_; rintro e w' ⟨rfl, rfl⟩)
        go_roundw
        case rel => exact ⟨k + 1, r ++ [⟨false, (k : Int), x⟩], A3, c3, by omega, HR2.out, by simp [HRL.out], by go_num, rfl, ho4, hb5⟩
        case measure => simp [intOf]; omega
    · obtain rfl : k = m := by omega
      have hrP : r = pcsFrom 0 P := by rw [HR.out, List.take_of_length_le (by rw [hPl.out]; omega)]
      have hokr : Hid (∀ x ∈ r, (Lit.int .i64 x.n).wf = true) := by
        show ∀ x ∈ r, (Lit.int .i64 x.n).wf = true
        rw [hrP]; exact pcsFrom_ok P 0 (by rw [hPl.out]; omega)
      have hpl : P = plan n from_ stagger := by rw [HP.out, HPL.out]
      have hk1 : keeps stagger r = true := by rw [hrP, hpl]; exact plan_keeps0 n from_ stagger stagger (by omega)
      have hst : starts r = P := by rw [hrP, pcsFrom_starts]
      have hsame : sameB P P = true := by simp [sameB]
      have hk2 : Hid (less ≤ stagger → keeps less r = true) := by intro h; rw [hrP, hpl]; exact plan_keeps0 n from_ stagger less h
      have HST := Lib.hid hst
      have HRP := Lib.hid hrP
      have HHPL := Lib.hid hpl
      have hrec := ho.recs
      have hbw : Below w.heap.size w wr := hbp.trans (hb.mono hbp.size)
      clear hst hrP hpl
      have hnog : (k : Nat) ≤ 1000 := by omega
      by_cases hless : stagger < less
      · have hdl : decide (stagger < less) = true := by simpa using hless
        go_wp2_with fail
        refine (Keeps_any stagger _ _ _ _ _ _ hrec (Nat.le_refl _) hnog hokr.out).mono ?_
        rintro e w5 ⟨rfl, hb5⟩
        go_wp2_with fail
        refine (Starts_any _ _ _ _ _ _ (hrec.below hb5) hb5.size (by omega)).mono ?_
        rintro e w6 ⟨A6, c6, rfl, ho6, hb6⟩
        rw [HST.out] at *
        rw [hPl.out] at *
        go_wp2_with fail
        refine (rSame4_any _ _ _ _ _ _ _ _ P P _ ho6.ints ((hp.below' (hb.trans (hb5.mono hb.size)) (Nat.le_refl _)).below' hb6 (Nat.le_trans hb.size hb5.size)) (by omega) (by omega)).mono ?_
        rintro e w7 ⟨rfl, hb7⟩
        go_wp2_with fail
        refine (wakes14_any _).mono ?_
        rintro e w8 ⟨rfl, hb8⟩
        go_wp2_with fail
        go_ret
        exact ⟨rfl, (((hbw.trans (hb5.mono hbw.size)).trans (hb6.mono (Nat.le_trans hbw.size hb5.size))).trans (hb7.mono (Nat.le_trans (Nat.le_trans hbw.size hb5.size) hb6.size))).trans (hb8.mono (Nat.le_trans (Nat.le_trans (Nat.le_trans hbw.size hb5.size) hb6.size) hb7.size))⟩
      · have hdl : decide (stagger < less) = false := by simpa using hless
        have hk3 : keeps less r = true := hk2.out (by omega)
        go_wp2_with fail
        refine (Keeps_any stagger _ _ _ _ _ _ hrec (Nat.le_refl _) hnog hokr.out).mono ?_
        rintro e w4 ⟨rfl, hb4⟩
        have hrec4 := hrec.below hb4
        have hb' := hb.trans (hb4.mono hb.size)
        have hbw' := hbw.trans (hb4.mono hbw.size)
        go_wp2_with fail
        refine (Keeps_any less _ _ _ _ _ _ hrec4 hb4.size hnog hokr.out).mono ?_
        rintro e w5 ⟨rfl, hb5⟩
        go_wp2_with fail
        refine (Starts_any _ _ _ _ _ _ (hrec4.below' hb5 hb4.size) (Nat.le_trans hb4.size hb5.size) (by omega)).mono ?_
        rintro e w6 ⟨A6, c6, rfl, ho6, hb6⟩
        rw [HST.out] at *
        rw [hPl.out] at *
        go_wp2_with fail
        refine (rSame4_any _ _ _ _ _ _ _ _ P P _ ho6.ints ((hp.below' (hb'.trans (hb5.mono hb'.size)) (Nat.le_refl _)).below' hb6 (Nat.le_trans hb'.size hb5.size)) (by omega) (by omega)).mono ?_
        rintro e w7 ⟨rfl, hb7⟩
        go_wp2_with fail
        refine (wakes14_any _).mono ?_
        rintro e w8 ⟨rfl, hb8⟩
        go_wp2_with fail
        go_ret
        exact ⟨rfl, (((hbw'.trans (hb5.mono hbw'.size)).trans (hb6.mono (Nat.le_trans hbw'.size hb5.size))).trans (hb7.mono (Nat.le_trans (Nat.le_trans hbw'.size hb5.size) hb6.size))).trans (hb8.mono (Nat.le_trans (Nat.le_trans (Nat.le_trans hbw'.size hb5.size) hb6.size) hb7.size))⟩

set_option maxRecDepth 100000 in
set_option maxHeartbeats 2000000 in
theorem PacePlans_top (n from_ stagger less : Int) (m : Nat) (w : World) (hm : m = planN n) (h : 8 < n) (h2 : (m : Int) = 8) :
    Calls Try.prog 6 #[.int .i64 n, .int .i64 from_, .int .i64 stagger, .int .i64 less] w fun e w' => e = .returned (.bool true) ∧ Below w.heap.size w w' := by
  have hm8 : m ≤ 8 := by rw [hm]; unfold planN; omega
  have HM := Lib.hid hm
  clear hm
  have HPL : Hid (plan n from_ stagger = planL m (clamp from_) stagger) := by show _ = _; rw [HM.out]; rfl
  have hcl := clamp_bd from_
  have hne : ((m : Int) != 8) = false := by simpa using h2
  have hng : ¬ n < 0 := by omega
  have H2 := Lib.hid h2
  clear h2
  go_enter Try.func6, Try.ntmps6
  go_wp2_with fail
  refine (Plan_any _ _ _ _).mono ?_
  rintro e wp ⟨A1, c1, rfl, ho, hbp⟩
  rw [← HM.out] at *
  rw [HPL.out] at ho
  have hp := ho.ints
  obtain ⟨P, hP⟩ : ∃ P, P = planL m (clamp from_) stagger := ⟨_, rfl⟩
  rw [← hP] at hp
  have HP := Lib.hid hP
  have hPl : Hid (P.length = m) := hp.len
  clear hP ho
  go_wp2_with fail
  go_loopw [10, 11] (fun s10 s11 wr => PlansInv wp P m s10 s11 wr) (fun _ s11 _ => m - (intOf s11).toNat)
  case atStart => exact ⟨0, [], none, 0, Nat.zero_le _, rfl, rfl, rfl, rfl, OwR.nil_ _ _ _ _, Below.refl _ _⟩
  case round =>
    obtain ⟨k, r, A2, c2, hk, hr, hrl, rfl, rfl, ho, hb⟩ := hrel
    have HR := Lib.hid hr
    have HRL := Lib.hid hrl
    clear hr hrl
    by_cases hlt : k < m
    · obtain ⟨b, off, x, rfl, hbb, hx, hcx⟩ := (hp.below hb).at_ hlt
      have hxv : x = planAt k (clamp from_) stagger := by have := hx.out; rw [HP.out, planL_at _ _ _ _ hlt] at this; injection this with this; exact this.symm
      have HXV := Lib.hid hxv
      clear hxv
      have HR2 : Hid (r ++ [⟨false, (k : Int), x⟩] = pcsFrom 0 (P.take (k + 1))) := by
        show _ = _
        rw [take_succ_of hx.out, pcsFrom_snoc, HR.out, List.length_take, Nat.min_eq_left (by rw [hPl.out]; omega)]
        simp
      rcases Nat.eq_zero_or_pos k with h0 | h0
      · have hz : ((k : Int) == 0) = true := by simp; omega
        have hcx0 : wr.cell? ⟨b, off, none⟩ = some (.int .i64 x) := by rw [h0] at hcx; exact hcx
        have h0m : 0 < m := by omega
        have hxc : (x != clamp from_) = false := by rw [HXV.out, h0]; simp [planAt]
        have hxc2 : (x == clamp from_) = true := by rw [HXV.out, h0]; simp [planAt]
        have H0 := Lib.hid h0
        clear h0
        go_wp2_with (at_builtin; refine wpList_appP _ rfl (.tmp 30) (.tmp 37) rfl wp.heap.size _ _ _ _ rfl (ho.alloc _) _ _ _ _ _ rfl (Pcs.new1 _ _ (by simp) ⟨false, (k : Int), x⟩ _) (by omega) (by have := hb.size; simp; omega) ?_; intro A3 c3 w3 ho3 hg3 hr3; have hb3 := (hb.alloc hb.size _).grown hg3 (by have := hb.size; simp; omega) (fun q hq => (ho.2.row q hq).1); have hy0 : w3.cell? ⟨b, off, none⟩ = some (.int .i64 x) := (hp.below hb3).cell (i := 0) (by have := hx.out; rw [H0.out] at this; exact this))
        go_quiet ((go_at_call 14; exact quiet_eq (rClamp_any _ _)))
        go_wp2_with fail
        go_roundw
        case rel => exact ⟨k + 1, r ++ [⟨false, (k : Int), x⟩], A3, c3, by omega, HR2.out, by simp [HRL.out], by go_num, rfl, OwR.drewN ho3 _, ⟨hb3.os, hb3.tape, hb3.output, hb3.size, hb3.block⟩⟩
        case measure => simp [intOf]; omega
      · have hz : ((k : Int) == 0) = false := by simp; omega
        obtain ⟨y, hy⟩ : ∃ y, P[k - 1]? = some y := ⟨_, List.getElem?_eq_getElem (by rw [hPl.out]; omega)⟩
        have hyv : y = planAt (k - 1) (clamp from_) stagger := by have := hy; rw [HP.out, planL_at _ _ _ _ (by omega)] at this; injection this with this; exact this.symm
        have hxy : x = later y [stagger] := by rw [HXV.out, hyv, ← planAt_succ, Nat.sub_add_cancel (by omega)]
        have hne1 : (later y [stagger] != x) = false := by rw [hxy]; simp
        have hne2 : (later y [stagger] == x) = true := by rw [hxy]; simp
        have hbd := planAt_bd (k - 1) (clamp from_) stagger hcl.1 hcl.2
        rw [← hyv] at hbd
        have hmay : mayB (k : Int) (m : Int) false y stagger (later y [stagger]) = true := by
          have h9 : oldB y stagger (later y [stagger]) = true := by
            show oldB y stagger (clamp (clamp y + clamp stagger)) = true
            rw [clamp_of hbd.1 hbd.2]; unfold oldB; rw [clamp_of hbd.1 hbd.2]; unfold clamp; simp; omega
          simp [mayB, h9]; omega
        have HY := Lib.hid hy
        have HXY := Lib.hid hxy
        have HYV := Lib.hid hyv
        have HHP := Lib.hid hp
        clear hy hxy hyv hbd
        have h11 : (1 : Int) ≤ (k : Int) := by omega
        have h12 : (0 : Int) ≤ (k : Int) - 1 := by omega
        have h13 : (k : Int) - 1 < (m : Int) := by omega
        have hlti : (k : Int) < (m : Int) := by omega
        have h0i : (0 : Int) < (k : Int) := by omega
        go_wp2_with (at_builtin; refine wpList_appP _ rfl (.tmp 30) (.tmp 37) rfl wp.heap.size _ _ _ _ rfl (ho.alloc _) _ _ _ _ _ rfl (Pcs.new1 _ _ (by simp) ⟨false, (k : Int), x⟩ _) (by omega) (by have := hb.size; simp; omega) ?_; intro A3 c3 w3 ho3 hg3 hr3; have hb3 := (hb.alloc hb.size _).grown hg3 (by have := hb.size; simp; omega) (fun q hq => (ho.2.row q hq).1); have hy0 : w3.cell? ⟨b, off + (k - 1), none⟩ = some (.int .i64 y) := (HHP.out.below hb3).cell HY.out)
        refine (When_yes _ _ _ _ _ h0i hlti).mono ?_
        rintro e w4 ⟨rfl, hb4⟩
        have hb5 : Below wp.heap.size wp w4 := hb3.trans (hb4.mono hb3.size)
        have hx4 : w4.cell? ⟨b, off + k, none⟩ = some (.int .i64 x) := (HHP.out.below hb5).cell hx.out
        have hy4 : w4.cell? ⟨b, off + (k - 1), none⟩ = some (.int .i64 y) := (HHP.out.below hb5).cell HY.out
        have ho4 := ho3.below hb4
        clear hb4 hb3 hg3 hr3 hy0 ho3 ho hb hcx
        go_wp2_with (go_at_call 9; refine (May_any _ _ _ _ _ _ _).mono ?_; rintro e w' ⟨rfl, rfl⟩)
        go_roundw
        case rel => exact ⟨k + 1, r ++ [⟨false, (k : Int), x⟩], A3, c3, by omega, HR2.out, by simp [HRL.out], by go_num, rfl, ho4, hb5⟩
        case measure => simp [intOf]; omega
    · obtain rfl : k = m := by omega
      have hrP : r = pcsFrom 0 P := by rw [HR.out, List.take_of_length_le (by rw [hPl.out]; omega)]
      have hokr : Hid (∀ x ∈ r, (Lit.int .i64 x.n).wf = true) := by
        show ∀ x ∈ r, (Lit.int .i64 x.n).wf = true
        rw [hrP]; exact pcsFrom_ok P 0 (by rw [hPl.out]; omega)
      have hpl : P = plan n from_ stagger := by rw [HP.out, HPL.out]
      have hk1 : keeps stagger r = true := by rw [hrP, hpl]; exact plan_keeps0 n from_ stagger stagger (by omega)
      have hst : starts r = P := by rw [hrP, pcsFrom_starts]
      have hsame : sameB P P = true := by simp [sameB]
      have hk2 : Hid (less ≤ stagger → keeps less r = true) := by intro h; rw [hrP, hpl]; exact plan_keeps0 n from_ stagger less h
      have HST := Lib.hid hst
      have HRP := Lib.hid hrP
      have HHPL := Lib.hid hpl
      have hrec := ho.recs
      have hbw : Below w.heap.size w wr := hbp.trans (hb.mono hbp.size)
      clear hst hrP hpl
      have hnog : (k : Nat) ≤ 1000 := by omega
      by_cases hless : stagger < less
      · have hdl : decide (stagger < less) = true := by simpa using hless
        go_wp2_with fail
        refine (Keeps_any stagger _ _ _ _ _ _ hrec (Nat.le_refl _) hnog hokr.out).mono ?_
        rintro e w5 ⟨rfl, hb5⟩
        go_wp2_with fail
        refine (Starts_any _ _ _ _ _ _ (hrec.below hb5) hb5.size (by omega)).mono ?_
        rintro e w6 ⟨A6, c6, rfl, ho6, hb6⟩
        rw [HST.out] at *
        rw [hPl.out] at *
        go_wp2_with fail
        refine (rSame4_any _ _ _ _ _ _ _ _ P P _ ho6.ints ((hp.below' (hb.trans (hb5.mono hb.size)) (Nat.le_refl _)).below' hb6 (Nat.le_trans hb.size hb5.size)) (by omega) (by omega)).mono ?_
        rintro e w7 ⟨rfl, hb7⟩
        go_wp2_with fail
        refine (wakes14_any _).mono ?_
        rintro e w8 ⟨rfl, hb8⟩
        go_wp2_with fail
        go_ret
        exact ⟨rfl, (((hbw.trans (hb5.mono hbw.size)).trans (hb6.mono (Nat.le_trans hbw.size hb5.size))).trans (hb7.mono (Nat.le_trans (Nat.le_trans hbw.size hb5.size) hb6.size))).trans (hb8.mono (Nat.le_trans (Nat.le_trans (Nat.le_trans hbw.size hb5.size) hb6.size) hb7.size))⟩
      · have hdl : decide (stagger < less) = false := by simpa using hless
        have hk3 : keeps less r = true := hk2.out (by omega)
        go_wp2_with fail
        refine (Keeps_any stagger _ _ _ _ _ _ hrec (Nat.le_refl _) hnog hokr.out).mono ?_
        rintro e w4 ⟨rfl, hb4⟩
        have hrec4 := hrec.below hb4
        have hb' := hb.trans (hb4.mono hb.size)
        have hbw' := hbw.trans (hb4.mono hbw.size)
        go_wp2_with fail
        refine (Keeps_any less _ _ _ _ _ _ hrec4 hb4.size hnog hokr.out).mono ?_
        rintro e w5 ⟨rfl, hb5⟩
        go_wp2_with fail
        refine (Starts_any _ _ _ _ _ _ (hrec4.below' hb5 hb4.size) (Nat.le_trans hb4.size hb5.size) (by omega)).mono ?_
        rintro e w6 ⟨A6, c6, rfl, ho6, hb6⟩
        rw [HST.out] at *
        rw [hPl.out] at *
        go_wp2_with fail
        refine (rSame4_any _ _ _ _ _ _ _ _ P P _ ho6.ints ((hp.below' (hb'.trans (hb5.mono hb'.size)) (Nat.le_refl _)).below' hb6 (Nat.le_trans hb'.size hb5.size)) (by omega) (by omega)).mono ?_
        rintro e w7 ⟨rfl, hb7⟩
        go_wp2_with fail
        refine (wakes14_any _).mono ?_
        rintro e w8 ⟨rfl, hb8⟩
        go_wp2_with fail
        go_ret
        exact ⟨rfl, (((hbw'.trans (hb5.mono hbw'.size)).trans (hb6.mono (Nat.le_trans hbw'.size hb5.size))).trans (hb7.mono (Nat.le_trans (Nat.le_trans hbw'.size hb5.size) hb6.size))).trans (hb8.mono (Nat.le_trans (Nat.le_trans (Nat.le_trans hbw'.size hb5.size) hb6.size) hb7.size))⟩

set_option maxHeartbeats 1000000 in
theorem PacePlans_low (n from_ stagger less : Int) (w : World) (h : n < 0) :
    Calls Try.prog 6 #[.int .i64 n, .int .i64 from_, .int .i64 stagger, .int .i64 less] w fun e w' => e = .returned (.bool true) ∧ Below w.heap.size w w' := by
  have hm : planN n = 0 := by unfold planN; omega
  have hpl : plan n from_ stagger = [] := by unfold plan; rw [hm]; rfl
  have hk1 : keeps stagger [] = true := rfl
  have hk2 : keeps less [] = true := rfl
  have hsame : sameB [] [] = true := rfl
  have hst : starts [] = [] := rfl
  go_enter Try.func6, Try.ntmps6
  go_wp2_with fail
  refine (Plan_any _ _ _ _).mono ?_
  rintro e wp ⟨A1, c1, rfl, ho, hbp⟩
  rw [hm] at *
  rw [hpl] at ho
  have hp := ho.ints
  clear hpl ho
  go_wp2_with fail
  go_loopw [10, 11] (fun s10 s11 wr => s10 = .slice none 0 0 ∧ s11 = .int .i64 0 ∧ wr = wp) (fun _ s11 _ => 0)
  case atStart => exact ⟨rfl, rfl, rfl⟩
  case round =>
    obtain ⟨rfl, rfl, rfl⟩ := hrel
    by_cases hless : stagger < less
    · have hdl : decide (stagger < less) = true := by simpa using hless
      go_wp2_with fail
      refine (Keeps_any stagger _ _ _ 0 _ _ (Recs.nil_ _ _ _) (Nat.zero_le _) (by omega) (by simp)).mono ?_
      rintro e w5 ⟨rfl, hb5⟩
      go_wp2_with fail
      refine (Starts_any _ _ _ 0 _ _ (Recs.nil_ _ _ _) (Nat.zero_le _) (by omega)).mono ?_
      rintro e w6 ⟨A6, c6, rfl, ho6, hb6⟩
      go_wp2_with fail
      refine (rSame4_any _ _ _ _ _ _ 0 0 [] [] _ (Ints.nil_ _ _ _) (Ints.nil_ _ _ _) (by omega) (by omega)).mono ?_
      rintro e w7 ⟨rfl, hb7⟩
      go_wp2_with fail
      refine (wakes14_any _).mono ?_
      rintro e w8 ⟨rfl, hb8⟩
      go_wp2_with fail
      go_ret
      exact ⟨rfl, (((hbp.trans (hb5.mono hbp.size)).trans (hb6.mono (Nat.le_trans hbp.size hb5.size))).trans (hb7.mono (Nat.le_trans (Nat.le_trans hbp.size hb5.size) hb6.size))).trans (hb8.mono (Nat.le_trans (Nat.le_trans (Nat.le_trans hbp.size hb5.size) hb6.size) hb7.size))⟩
    · have hdl : decide (stagger < less) = false := by simpa using hless
      go_wp2_with fail
      refine (Keeps_any stagger _ _ _ 0 _ _ (Recs.nil_ _ _ _) (Nat.zero_le _) (by omega) (by simp)).mono ?_
      rintro e w4 ⟨rfl, hb4⟩
      have hbw' := hbp.trans (hb4.mono hbp.size)
      go_wp2_with fail
      refine (Keeps_any less _ _ _ 0 _ _ (Recs.nil_ _ _ _) (Nat.zero_le _) (by omega) (by simp)).mono ?_
      rintro e w5 ⟨rfl, hb5⟩
      go_wp2_with fail
      refine (Starts_any _ _ _ 0 _ _ (Recs.nil_ _ _ _) (Nat.zero_le _) (by omega)).mono ?_
      rintro e w6 ⟨A6, c6, rfl, ho6, hb6⟩
      go_wp2_with fail
      refine (rSame4_any _ _ _ _ _ _ 0 0 [] [] _ (Ints.nil_ _ _ _) (Ints.nil_ _ _ _) (by omega) (by omega)).mono ?_
      rintro e w7 ⟨rfl, hb7⟩
      go_wp2_with fail
      refine (wakes14_any _).mono ?_
      rintro e w8 ⟨rfl, hb8⟩
      go_wp2_with fail
      go_ret
      exact ⟨rfl, (((hbw'.trans (hb5.mono hbw'.size)).trans (hb6.mono (Nat.le_trans hbw'.size hb5.size))).trans (hb7.mono (Nat.le_trans (Nat.le_trans hbw'.size hb5.size) hb6.size))).trans (hb8.mono (Nat.le_trans (Nat.le_trans (Nat.le_trans hbw'.size hb5.size) hb6.size) hb7.size))⟩

theorem PacePlans_walk (n from_ stagger less : Int) (w : World) :
    Calls Try.prog 6 #[.int .i64 n, .int .i64 from_, .int .i64 stagger, .int .i64 less] w fun e w' => e = .returned (.bool true) ∧ Below w.heap.size w w' := by
  rcases (by omega : n < 0 ∨ (0 ≤ n ∧ n ≤ 8) ∨ 8 < n) with h | ⟨h, h1⟩ | h
  · exact PacePlans_low n from_ stagger less w h
  · exact PacePlans_mid n from_ stagger less (planN n) w rfl h h1 (by unfold planN; omega)
  · exact PacePlans_top n from_ stagger less (planN n) w rfl h (by unfold planN; omega)
end Go.Proofs.Ytcmgcbkhjdeinaa
