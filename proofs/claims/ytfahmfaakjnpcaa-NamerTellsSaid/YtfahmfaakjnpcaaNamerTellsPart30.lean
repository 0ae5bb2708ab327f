/-
  Parts of the proof of the statement NamerTells. Conditions: as each states.
-/
import Derived.Test.YtfahmfaakjnpcaaNamerTellsPart29
namespace Go.Proofs.Ytfahmfaakjnpcaa
set_option linter.unusedVariables false
set_option linter.unusedSimpArgs false
open Go.RowKit Go.Shelf

set_option maxHeartbeats 800000 in
theorem EqualInt_any (A1 A2 : Option Addr) (n1 n2 c1 c2 B1 B2 : Nat) (a b : List Int) (w : World) (ha : Ints w B1 A1 n1 a) (hb : Ints w B2 A2 n2 b) (hn1 : n1 ≤ 100000) (hn2 : n2 ≤ 100000) :
    Calls Try.prog 40 #[.slice A1 n1 c1, .slice A2 n2 c2] w fun e w' => e = .returned (.bool (decide (a = b))) ∧ Below w.heap.size w w' := by
  have HA := Lib.hid ha.len
  have HB := Lib.hid hb.len
  by_cases hne : n1 = n2
  · subst hne
    go_enter Try.func40, Try.ntmps40
    go_wp2
    go_loopw [13] (fun s5 wr => ∃ (k : Nat), k ≤ n1 ∧ s5 = .int .i64 k ∧ Hid (a.take k = b.take k) ∧ ∃ nq, wr = w.drewN nq) (fun s5 _ => n1 - (intOf s5).toNat)
    case atStart => exact ⟨0, Nat.zero_le _, rfl, rfl, 0, rfl⟩
    case round =>
      obtain ⟨k, hk, rfl, hab, nq, rfl⟩ := hrel
      by_cases hlt : k < n1
      · obtain ⟨b1, o1, x, rfl, _, hx, hc1⟩ := ha.at_ hlt
        obtain ⟨b2, o2, y, rfl, _, hy, hc2⟩ := hb.at_ hlt
        by_cases hxy : x = y
        · have hb0 : (x != y) = false := by simpa using hxy
          have hs : Hid (a.take (k + 1) = b.take (k + 1)) := by show _ = _; rw [take_succ_of hx.out, take_succ_of hy.out, hab.out, hxy]
          have HX := Lib.hid hxy
          clear hxy
          go_wp2
          go_quiet (fail)
          go_wp2
          go_roundw
          case rel => exact ⟨k + 1, by omega, by go_num, hs, _, rfl⟩
          case measure => simp [intOf]; omega
        · have hb0 : (x != y) = true := by simpa using hxy
          have hs : decide (a = b) = false := by
            simp only [decide_eq_false_iff_not]
            intro e
            have h1 := hx.out
            rw [e, hy.out] at h1
            injection h1 with h1
            exact hxy h1.symm
          have HS := Lib.hid hs
          have HX := Lib.hid hxy
          clear hxy hs
          go_wp2
          go_quiet (fail)
          go_wp2
          go_ret
          exact ⟨ret_bool HS.out.symm, ⟨rfl, rfl, rfl, Nat.le_refl _, fun _ _ => rfl⟩⟩
      · have hs : decide (a = b) = true := by
          have h := hab.out
          rw [List.take_of_length_le (by rw [HA.out]; omega), List.take_of_length_le (by rw [HB.out]; omega)] at h
          simp [h]
        have HS := Lib.hid hs
        clear hs
        go_wp2
        go_ret
        exact ⟨ret_bool HS.out.symm, ⟨rfl, rfl, rfl, Nat.le_refl _, fun _ _ => rfl⟩⟩
  · have hd : ((n1 : Int) != (n2 : Int)) = true := by simp; omega
    have hs : decide (a = b) = false := by
      simp only [decide_eq_false_iff_not]
      intro e
      exact hne (by rw [← HA.out, ← HB.out, e])
    have HS := Lib.hid hs
    have HN := Lib.hid hne
    clear hs hne
    go_enter Try.func40, Try.ntmps40
    go_wp2
    go_ret
    exact ⟨ret_bool HS.out.symm, Below.refl _ _⟩
set_option maxHeartbeats 800000 in
theorem EqualKn_any (A1 A2 : Option Addr) (n1 n2 c1 c2 B1 B2 : Nat) (a b : List Kn) (w : World) (ha : Kns w B1 A1 n1 a) (hb : Kns w B2 A2 n2 b) (hn1 : n1 ≤ 100000) (hn2 : n2 ≤ 100000) :
    Calls Try.prog 41 #[.slice A1 n1 c1, .slice A2 n2 c2] w fun e w' => e = .returned (.bool (decide (a = b))) ∧ Below w.heap.size w w' := by
  have HA := Lib.hid ha.1
  have HB := Lib.hid hb.1
  by_cases hne : n1 = n2
  · subst hne
    go_enter Try.func41, Try.ntmps41
    go_wp2
    go_loopw [13] (fun s5 wr => ∃ (k : Nat), k ≤ n1 ∧ s5 = .int .i64 k ∧ Hid (a.take k = b.take k) ∧ ∃ nq, wr = w.drewN nq) (fun s5 _ => n1 - (intOf s5).toNat)
    case atStart => exact ⟨0, Nat.zero_le _, rfl, rfl, 0, rfl⟩
    case round =>
      obtain ⟨k, hk, rfl, hab, nq, rfl⟩ := hrel
      by_cases hlt : k < n1
      · obtain ⟨b1, o1, x, rfl, _, hx, hc0, hc1, hc2, hc3⟩ := Kns.cells ha hlt
        obtain ⟨b2, o2, y, rfl, _, hy, hd0, hd1, hd2, hd3⟩ := Kns.cells hb hlt
        by_cases hxy : x = y
        · have hs : Hid (a.take (k + 1) = b.take (k + 1)) := by show _ = _; rw [take_succ_of hx.out, take_succ_of hy.out, hab.out, hxy]
          have hE := fun wx => eqKn x y wx
          rw [decide_eq_true hxy] at hE
          unfold valKn at hE
          have HX := Lib.hid hxy
          clear hxy
          go_wp2
          go_quiet (fail)
          go_wp2
          go_roundw
          case rel => exact ⟨k + 1, by omega, by go_num, hs, _, rfl⟩
          case measure => simp [intOf]; omega
        · have hs : decide (a = b) = false := by
            simp only [decide_eq_false_iff_not]
            intro e
            have h1 := hx.out
            rw [e, hy.out] at h1
            injection h1 with h1
            exact hxy h1.symm
          have HS := Lib.hid hs
          have hE := fun wx => eqKn x y wx
          rw [decide_eq_false hxy] at hE
          unfold valKn at hE
          have HX := Lib.hid hxy
          clear hxy hs
          go_wp2
          go_quiet (fail)
          go_wp2
          go_ret
          exact ⟨ret_bool HS.out.symm, ⟨rfl, rfl, rfl, Nat.le_refl _, fun _ _ => rfl⟩⟩
      · have hs : decide (a = b) = true := by
          have h := hab.out
          rw [List.take_of_length_le (by rw [HA.out]; omega), List.take_of_length_le (by rw [HB.out]; omega)] at h
          simp [h]
        have HS := Lib.hid hs
        clear hs
        go_wp2
        go_ret
        exact ⟨ret_bool HS.out.symm, ⟨rfl, rfl, rfl, Nat.le_refl _, fun _ _ => rfl⟩⟩
  · have hd : ((n1 : Int) != (n2 : Int)) = true := by simp; omega
    have hs : decide (a = b) = false := by
      simp only [decide_eq_false_iff_not]
      intro e
      exact hne (by rw [← HA.out, ← HB.out, e])
    have HS := Lib.hid hs
    have HN := Lib.hid hne
    clear hs hne
    go_enter Try.func41, Try.ntmps41
    go_wp2
    go_ret
    exact ⟨ret_bool HS.out.symm, Below.refl _ _⟩
def flEq (p q : Fx) : Bool := decide ((p.1.name, p.1.seeker, p.2) = (q.1.name, q.1.seeker, q.2))
theorem eg_sameC : ∀ args w, (callFunc 39 args).run Try.prog w = .ok (.enter 39 args) w := enters_of Try.func39 (by kernel_rfl) rfl
set_option maxRecDepth 100000 in
set_option maxHeartbeats 4000000 in
theorem sameC_any (p q : Fx) (w : World) (hp : Ints w w.heap.size p.1.A p.1.n p.2) (hq : Ints w w.heap.size q.1.A q.1.n q.2) (hn1 : p.1.n ≤ 90000) (hn2 : q.1.n ≤ 90000) :
    Calls Try.prog 39 #[valFl p.1, valFl q.1] w fun e w' => e = .returned (.bool (flEq p q)) ∧ Below w.heap.size w w' := by
  have hb0 := (Below.new_ w (.cells #[.string p.1.name, .int .i64 p.1.seeker, .slice p.1.A p.1.n p.1.c] 82)).alloc (by simp) (.cells #[.string q.1.name, .int .i64 q.1.seeker, .slice q.1.A q.1.n q.1.c] 82)
  have hI1 := (Ints.below' hp hb0 (Nat.le_refl _)).more hb0.size
  have hI2 := (Ints.below' hq hb0 (Nat.le_refl _)).more hb0.size
  go_enter Try.func39, Try.ntmps39
  cases hnm : (p.1.name.toList == q.1.name.toList)
  case false =>
    have HR : Hid (flEq p q = false) := by
      show _ = _
      unfold flEq
      simp only [decide_eq_false_iff_not, Prod.mk.injEq, not_and]
      intro e
      rw [e] at hnm
      simp at hnm
    have hnmd : decide (p.1.name.toList = q.1.name.toList) = false := by simpa using hnm
    go_wp2_with fail
    go_ret
    exact ⟨ret_bool HR.out.symm, hb0⟩
  case true =>
    have hne : Hid (p.1.name = q.1.name) := (sEq_iff _ _).1 (by unfold sEq; exact hnm)
    have hnmd : decide (p.1.name.toList = q.1.name.toList) = true := by simpa using hnm
    cases hsk : (p.1.seeker == q.1.seeker)
    case false =>
      have HR : Hid (flEq p q = false) := by
        show _ = _
        unfold flEq
        simp only [decide_eq_false_iff_not, Prod.mk.injEq, not_and]
        intro _ e
        rw [e] at hsk
        simp at hsk
      have hskd : decide (p.1.seeker = q.1.seeker) = false := by simpa using hsk
      go_wp2_with fail
      go_ret
      exact ⟨ret_bool HR.out.symm, hb0⟩
    case true =>
      have hse : Hid (p.1.seeker = q.1.seeker) := by show _ = _; simpa using hsk
      have hskd : decide (p.1.seeker = q.1.seeker) = true := by simpa using hsk
      have HR : Hid (flEq p q = decide (p.2 = q.2)) := by
        show _ = _
        unfold flEq
        rw [hne.out, hse.out]
        simp
      go_wp2_with fail
      refine (EqualInt_any _ _ _ _ _ _ _ _ p.2 q.2 _ hI1 hI2 (by omega) (by omega)).mono ?_
      rintro e w2 ⟨rfl, hb2⟩
      go_wp2_with fail
      go_ret
      exact ⟨ret_bool HR.out.symm, hb0.trans (hb2.mono hb0.size)⟩
theorem absF_eq_of {a b : List Fx} {k : Nat} {p q : Fx} (hp : a[k]? = some p) (hq : b[k]? = some q) (hab : (absF a).take k = (absF b).take k) (h : flEq p q = true) : (absF a).take (k + 1) = (absF b).take (k + 1) := by
  rw [take_succ_of (fl_at (x := p.1) (L := p.2) hp), take_succ_of (fl_at (x := q.1) (L := q.2) hq), hab]
  unfold flEq at h
  rw [of_decide_eq_true h]
set_option maxRecDepth 100000 in
set_option maxHeartbeats 4000000 in
theorem EqualFuncFl_any (A1 A2 : Option Addr) (n1 n2 c1 c2 : Nat) (a b : List Fx) (w : World) (ha : FlysIs w w.heap.size A1 n1 a) (hb : FlysIs w w.heap.size A2 n2 b) (hn1 : n1 ≤ 1000) (hn2 : n2 ≤ 1000) (hp1 : ∀ p ∈ a, p.1.n ≤ 90000) (hp2 : ∀ p ∈ b, p.1.n ≤ 90000) :
    Calls Try.prog 42 #[.slice A1 n1 c1, .slice A2 n2 c2, .func (.func 39) #[] #[]] w fun e w' => e = .returned (.bool (decide (absF a = absF b))) ∧ Below w.heap.size w w' := by
  have HA := Lib.hid ha.len
  have HB := Lib.hid hb.len
  by_cases hne : n1 = n2
  · subst hne
    go_enter Try.func42, Try.ntmps42
    go_wp2_with fail
    go_loopw [17] (fun s17 wr => ∃ (k : Nat), k ≤ n1 ∧ s17 = .int .i64 k ∧ Hid ((absF a).take k = (absF b).take k) ∧ Below w.heap.size w wr) (fun s17 _ => n1 - (intOf s17).toNat)
    case atStart => exact ⟨0, Nat.zero_le _, rfl, rfl, Below.refl _ _⟩
    case round =>
      obtain ⟨k, hk, rfl, hab, hbr⟩ := hrel
      by_cases hlt : k < n1
      · obtain ⟨b1, o1, x, hA1, l1, hx, x0, x1, x2⟩ := Fls.cells (ha.1.below hbr) hlt
        obtain ⟨b2, o2, y, hA2, l2, hy, y0, y1, y2⟩ := Fls.cells (hb.1.below hbr) hlt
        obtain ⟨L1, hL1⟩ := fx_get hx.out
        obtain ⟨L2, hL2⟩ := fx_get hy.out
        have g1 := List.mem_of_getElem? hL1
        have g2 := List.mem_of_getElem? hL2
        have hbn : Below wr.heap.size wr ((wr.alloc (.cells #[.string x.name, .int .i64 x.seeker, .slice x.A x.n x.c] 82)).alloc (.cells #[.string y.name, .int .i64 y.seeker, .slice y.A y.n y.c] 82)) := (Below.new_ wr _).alloc (by simp) _
        have hsz := hbr.size
        have hI1 := ((((ha.2 _ g1).1.below hbr).more hsz).below' hbn (Nat.le_refl _)).more hbn.size
        have hI2 := ((((hb.2 _ g2).1.below hbr).more hsz).below' hbn (Nat.le_refl _)).more hbn.size
        have hc := sameC_any (x, L1) (y, L2) _ hI1 hI2 (hp1 _ g1) (hp2 _ g2)
        have lb1 : b1 < wr.heap.size := by omega
        have lb2 : b2 < wr.heap.size := by omega
        have G1 := Lib.hid hL1
        have G2 := Lib.hid hL2
        rw [hA1, hA2]
        have j0 : (0 : Int) ≤ (k : Int) := by omega
        have j1 : (k : Int) < (n1 : Int) := by omega
        clear hx hy hL1 hL2 g1 g2 hA1 hA2 hI1 hI2
        cases hf : flEq (x, L1) (y, L2)
        case true =>
          have hs := Lib.hid (absF_eq_of G1.out G2.out hab.out hf)
          rw [hf] at hc
          clear hf
          go_wp2_with ((first | go_at_call 39 | go_at_fn 39); refine hc.mono ?_; rintro e w2 ⟨rfl, hb2⟩)
          go_roundw
          case rel => exact ⟨k + 1, by omega, by go_num, hs, hbr.trans ((hbn.trans (hb2.mono hbn.size)).mono hsz)⟩
          case measure => simp [intOf]; omega
        case false =>
          have hs : Hid (decide (absF a = absF b) = false) := by
            refine fl_ne (fl_at G1.out) (fl_at G2.out) ?_
            unfold flEq at hf
            exact of_decide_eq_false hf
          rw [hf] at hc
          clear hf
          go_wp2_with ((first | go_at_call 39 | go_at_fn 39); refine hc.mono ?_; rintro e w2 ⟨rfl, hb2⟩)
          go_ret
          exact ⟨ret_bool hs.out.symm, hbr.trans ((hbn.trans (hb2.mono hbn.size)).mono hsz)⟩
      · have hs : Hid (decide (absF a = absF b) = true) := by
          have h := hab.out
          rw [List.take_of_length_le (by rw [absF_len, HA.out]; omega), List.take_of_length_le (by rw [absF_len, HB.out]; omega)] at h
          show _ = _
          simp [h]
        go_wp2_with fail
        go_ret
        exact ⟨ret_bool hs.out.symm, hbr⟩
  · have hd : ((n1 : Int) != (n2 : Int)) = true := by simp; omega
    have hs : Hid (decide (absF a = absF b) = false) := by
      show _ = _
      simp only [decide_eq_false_iff_not]
      intro e
      have e2 : (absF a).length = (absF b).length := by rw [e]
      rw [absF_len, absF_len, HA.out, HB.out] at e2
      exact hne e2
    have HN := Lib.hid hne
    clear hne
    go_enter Try.func42, Try.ntmps42
    go_wp2_with fail
    go_ret
    exact ⟨ret_bool hs.out.symm, Below.refl _ _⟩
set_option maxRecDepth 100000 in
set_option maxHeartbeats 8000000 in
theorem Same18_any (h1 h2 : NmH) (l1 l2 : List Kn) (f1 f2 : List Fx) (w : World) (hN1 : NmIs w w.heap.size h1 l1 f1) (hN2 : NmIs w w.heap.size h2 l2 f2) (hk1 : h1.kn ≤ 1000) (hk2 : h2.kn ≤ 1000) (hf1 : h1.fn ≤ 1000) (hf2 : h2.fn ≤ 1000) (hp1 : ∀ p ∈ f1, p.1.n ≤ 90000) (hp2 : ∀ p ∈ f2, p.1.n ≤ 90000) :
    Calls Try.prog 26 #[.agg #[.int .i64 h1.id, .int .i64 h1.cf.1, .int .i64 h1.cf.2.1, .int .i64 h1.cf.2.2.1, .int .i64 h1.cf.2.2.2.1, .int .i64 h1.cf.2.2.2.2.1, .int .i64 h1.cf.2.2.2.2.2.1, .int .i64 h1.cf.2.2.2.2.2.2.1, .int .i64 h1.cf.2.2.2.2.2.2.2.1, .int .i64 h1.cf.2.2.2.2.2.2.2.2, .slice h1.kA h1.kn h1.kc, .slice h1.fA h1.fn h1.fc, .bool h1.over], .agg #[.int .i64 h2.id, .int .i64 h2.cf.1, .int .i64 h2.cf.2.1, .int .i64 h2.cf.2.2.1, .int .i64 h2.cf.2.2.2.1, .int .i64 h2.cf.2.2.2.2.1, .int .i64 h2.cf.2.2.2.2.2.1, .int .i64 h2.cf.2.2.2.2.2.2.1, .int .i64 h2.cf.2.2.2.2.2.2.2.1, .int .i64 h2.cf.2.2.2.2.2.2.2.2, .slice h2.kA h2.kn h2.kc, .slice h2.fA h2.fn h2.fc, .bool h2.over]] w fun e w' => e = .returned (.bool (sameN (absN h1 l1 f1) (absN h2 l2 f2))) ∧ Below w.heap.size w w' := by
  have hb0 := (Below.new_ w (.cells #[.int .i64 h1.id, .int .i64 h1.cf.1, .int .i64 h1.cf.2.1, .int .i64 h1.cf.2.2.1, .int .i64 h1.cf.2.2.2.1, .int .i64 h1.cf.2.2.2.2.1, .int .i64 h1.cf.2.2.2.2.2.1, .int .i64 h1.cf.2.2.2.2.2.2.1, .int .i64 h1.cf.2.2.2.2.2.2.2.1, .int .i64 h1.cf.2.2.2.2.2.2.2.2, .slice h1.kA h1.kn h1.kc, .slice h1.fA h1.fn h1.fc, .bool h1.over] 29)).alloc (by simp) (.cells #[.int .i64 h2.id, .int .i64 h2.cf.1, .int .i64 h2.cf.2.1, .int .i64 h2.cf.2.2.1, .int .i64 h2.cf.2.2.2.1, .int .i64 h2.cf.2.2.2.2.1, .int .i64 h2.cf.2.2.2.2.2.1, .int .i64 h2.cf.2.2.2.2.2.2.1, .int .i64 h2.cf.2.2.2.2.2.2.2.1, .int .i64 h2.cf.2.2.2.2.2.2.2.2, .slice h2.kA h2.kn h2.kc, .slice h2.fA h2.fn h2.fc, .bool h2.over] 29)
  have hR1 : NmRow ((w.alloc (.cells #[.int .i64 h1.id, .int .i64 h1.cf.1, .int .i64 h1.cf.2.1, .int .i64 h1.cf.2.2.1, .int .i64 h1.cf.2.2.2.1, .int .i64 h1.cf.2.2.2.2.1, .int .i64 h1.cf.2.2.2.2.2.1, .int .i64 h1.cf.2.2.2.2.2.2.1, .int .i64 h1.cf.2.2.2.2.2.2.2.1, .int .i64 h1.cf.2.2.2.2.2.2.2.2, .slice h1.kA h1.kn h1.kc, .slice h1.fA h1.fn h1.fc, .bool h1.over] 29)).alloc (.cells #[.int .i64 h2.id, .int .i64 h2.cf.1, .int .i64 h2.cf.2.1, .int .i64 h2.cf.2.2.1, .int .i64 h2.cf.2.2.2.1, .int .i64 h2.cf.2.2.2.2.1, .int .i64 h2.cf.2.2.2.2.2.1, .int .i64 h2.cf.2.2.2.2.2.2.1, .int .i64 h2.cf.2.2.2.2.2.2.2.1, .int .i64 h2.cf.2.2.2.2.2.2.2.2, .slice h2.kA h2.kn h2.kc, .slice h2.fA h2.fn h2.fc, .bool h2.over] 29)) w.heap.size h1 := (Below.heap_alloc _ _ _ (by simp)).trans (heap_alloc_new w _)
  have hR2 : NmRow ((w.alloc (.cells #[.int .i64 h1.id, .int .i64 h1.cf.1, .int .i64 h1.cf.2.1, .int .i64 h1.cf.2.2.1, .int .i64 h1.cf.2.2.2.1, .int .i64 h1.cf.2.2.2.2.1, .int .i64 h1.cf.2.2.2.2.2.1, .int .i64 h1.cf.2.2.2.2.2.2.1, .int .i64 h1.cf.2.2.2.2.2.2.2.1, .int .i64 h1.cf.2.2.2.2.2.2.2.2, .slice h1.kA h1.kn h1.kc, .slice h1.fA h1.fn h1.fc, .bool h1.over] 29)).alloc (.cells #[.int .i64 h2.id, .int .i64 h2.cf.1, .int .i64 h2.cf.2.1, .int .i64 h2.cf.2.2.1, .int .i64 h2.cf.2.2.2.1, .int .i64 h2.cf.2.2.2.2.1, .int .i64 h2.cf.2.2.2.2.2.1, .int .i64 h2.cf.2.2.2.2.2.2.1, .int .i64 h2.cf.2.2.2.2.2.2.2.1, .int .i64 h2.cf.2.2.2.2.2.2.2.2, .slice h2.kA h2.kn h2.kc, .slice h2.fA h2.fn h2.fc, .bool h2.over] 29)) (w.heap.size + 1) h2 := by
    have := heap_alloc_new (w.alloc (.cells #[.int .i64 h1.id, .int .i64 h1.cf.1, .int .i64 h1.cf.2.1, .int .i64 h1.cf.2.2.1, .int .i64 h1.cf.2.2.2.1, .int .i64 h1.cf.2.2.2.2.1, .int .i64 h1.cf.2.2.2.2.2.1, .int .i64 h1.cf.2.2.2.2.2.2.1, .int .i64 h1.cf.2.2.2.2.2.2.2.1, .int .i64 h1.cf.2.2.2.2.2.2.2.2, .slice h1.kA h1.kn h1.kc, .slice h1.fA h1.fn h1.fc, .bool h1.over] 29)) (.cells #[.int .i64 h2.id, .int .i64 h2.cf.1, .int .i64 h2.cf.2.1, .int .i64 h2.cf.2.2.1, .int .i64 h2.cf.2.2.2.1, .int .i64 h2.cf.2.2.2.2.1, .int .i64 h2.cf.2.2.2.2.2.1, .int .i64 h2.cf.2.2.2.2.2.2.1, .int .i64 h2.cf.2.2.2.2.2.2.2.1, .int .i64 h2.cf.2.2.2.2.2.2.2.2, .slice h2.kA h2.kn h2.kc, .slice h2.fA h2.fn h2.fc, .bool h2.over] 29)
    rw [World.size_alloc] at this
    exact this
  have hE := fun wx => eqCf h1.cf h2.cf wx
  have hM1 := hN1.next hb0
  have hM2 := hN2.next hb0
  go_enter Try.func26, Try.ntmps26
  go_upto_region 2 with fail
  generalize ((w.alloc (.cells #[.int .i64 h1.id, .int .i64 h1.cf.1, .int .i64 h1.cf.2.1, .int .i64 h1.cf.2.2.1, .int .i64 h1.cf.2.2.2.1, .int .i64 h1.cf.2.2.2.2.1, .int .i64 h1.cf.2.2.2.2.2.1, .int .i64 h1.cf.2.2.2.2.2.2.1, .int .i64 h1.cf.2.2.2.2.2.2.2.1, .int .i64 h1.cf.2.2.2.2.2.2.2.2, .slice h1.kA h1.kn h1.kc, .slice h1.fA h1.fn h1.fc, .bool h1.over] 29)).alloc (.cells #[.int .i64 h2.id, .int .i64 h2.cf.1, .int .i64 h2.cf.2.1, .int .i64 h2.cf.2.2.1, .int .i64 h2.cf.2.2.2.1, .int .i64 h2.cf.2.2.2.2.1, .int .i64 h2.cf.2.2.2.2.2.1, .int .i64 h2.cf.2.2.2.2.2.2.1, .int .i64 h2.cf.2.2.2.2.2.2.2.1, .int .i64 h2.cf.2.2.2.2.2.2.2.2, .slice h2.kA h2.kn h2.kc, .slice h2.fA h2.fn h2.fc, .bool h2.over] 29)) = W at hb0 hR1 hR2 hM1 hM2 ⊢
  obtain ⟨a0, a1, a2, a3, a4, a5, a6, a7, a8, a9, a10, a11, a12⟩ := hR1.cells
  obtain ⟨b0, b1, b2, b3, b4, b5, b6, b7, b8, b9, b10, b11, b12⟩ := hR2.cells
  by_cases hid : h1.id = h2.id
  case neg =>
    have HR : Hid (sameN (absN h1 l1 f1) (absN h2 l2 f2) = false) := by show _ = _; unfold sameN absN; simp [hid]
    have q1 : (h1.id == h2.id) = false := by simpa using hid
    have q2 : decide (h1.id = h2.id) = false := by simpa using hid
    clear hid hE
    go_wp2_with fail
    go_ret
    exact ⟨ret_bool HR.out.symm, hb0⟩
  have HID := Lib.hid hid
  rw [hid] at a0
  clear hid
  cases hc : cfB h1.cf h2.cf
  case false =>
    rw [hc] at hE
    have HR : Hid (sameN (absN h1 l1 f1) (absN h2 l2 f2) = false) := by show _ = _; unfold sameN absN; simp [hc]
    clear hc
    go_wp2_with fail
    go_ret
    exact ⟨ret_bool HR.out.symm, hb0⟩
  rw [hc] at hE
  have HC := Lib.hid hc
  clear hc
  by_cases ho : h1.over = h2.over
  case neg =>
    have HR : Hid (sameN (absN h1 l1 f1) (absN h2 l2 f2) = false) := by show _ = _; unfold sameN absN; simp [ho]
    obtain ⟨o, ho2⟩ : ∃ o, h2.over = o := ⟨_, rfl⟩
    have ho1 : h1.over = !o := by rw [← ho2]; cases hh : h1.over <;> cases hg : h2.over <;> simp_all
    rw [ho1] at a12
    rw [ho2] at b12
    clear ho ho1 ho2
    cases o
    all_goals
      go_wp2_with fail
      go_ret
      exact ⟨ret_bool HR.out.symm, hb0⟩
  have HO := Lib.hid ho
  rw [ho] at a12
  clear ho
  have hq2 : (h2.over == h2.over) = true := by simp
  go_wp2_with fail
  refine (EqualKn_any _ _ _ _ _ _ _ _ l1 l2 _ hM1.k hM2.k (by omega) (by omega)).mono ?_
  rintro e w3 ⟨rfl, hb3⟩
  have hB := hb0.trans (hb3.mono hb0.size)
  have hQ1 : NmRow w3 w.heap.size h1 := (hb3.block _ hR1.lt).trans hR1
  have hQ2 : NmRow w3 (w.heap.size + 1) h2 := (hb3.block _ hR2.lt).trans hR2
  replace hM1 := hM1.next hb3
  replace hM2 := hM2.next hb3
  clear a0 a1 a2 a3 a4 a5 a6 a7 a8 a9 a10 a11 a12 b0 b1 b2 b3 b4 b5 b6 b7 b8 b9 b10 b11 b12 hR1 hR2 hb3 hb0 hE
  obtain ⟨a0, a1, a2, a3, a4, a5, a6, a7, a8, a9, a10, a11, a12⟩ := hQ1.cells
  obtain ⟨b0, b1, b2, b3, b4, b5, b6, b7, b8, b9, b10, b11, b12⟩ := hQ2.cells
  by_cases hk : l1 = l2
  case neg =>
    have HR : Hid (sameN (absN h1 l1 f1) (absN h2 l2 f2) = false) := by show _ = _; unfold sameN absN; simp [hk]
    rw [decide_eq_false hk]
    clear hk
    go_wp2_with fail
    go_ret
    exact ⟨ret_bool HR.out.symm, hB⟩
  have HK := Lib.hid hk
  rw [decide_eq_true hk]
  clear hk
  have hS : Hid (sameN (absN h1 l1 f1) (absN h2 l2 f2) = decide (absF f1 = absF f2)) := by
    show _ = _
    have c1 := HC.out
    have c2 := HID.out
    have c3 := HO.out
    have c4 := HK.out
    unfold sameN absN
    simp only [c1, c2, c3, c4]
    simp
  go_wp2_with fail
  refine (EqualFuncFl_any _ _ _ _ _ _ f1 f2 _ hM1.f hM2.f (by omega) (by omega) hp1 hp2).mono ?_
  rintro e w4 ⟨rfl, hb4⟩
  go_wp2_with fail
  go_ret
  exact ⟨ret_bool hS.out.symm, hB.trans (hb4.mono hB.size)⟩
end Go.Proofs.Ytfahmfaakjnpcaa
namespace Go.Proofs.Ytfahmfaakjnpcaa
set_option linter.unusedVariables false
set_option linter.unusedSimpArgs false
open Go.RowKit Go.Shelf

set_option maxRecDepth 100000 in
set_option maxHeartbeats 4000000 in
theorem rFlies_any (h : NmH) (l : List Kn) (fs : List Fx) (A : Option Addr) (n c : Nat) (L : List ByteArray) (w : World) (hN : NmIs w w.heap.size h l fs) (hfn : h.fn ≤ 1000) (hL : Strs w w.heap.size A n L) (hn : n ≤ 1000) :
    Calls Try.prog 24 #[.agg #[.int .i64 h.id, .int .i64 h.cf.1, .int .i64 h.cf.2.1, .int .i64 h.cf.2.2.1, .int .i64 h.cf.2.2.2.1, .int .i64 h.cf.2.2.2.2.1, .int .i64 h.cf.2.2.2.2.2.1, .int .i64 h.cf.2.2.2.2.2.2.1, .int .i64 h.cf.2.2.2.2.2.2.2.1, .int .i64 h.cf.2.2.2.2.2.2.2.2, .slice h.kA h.kn h.kc, .slice h.fA h.fn h.fc, .bool h.over], .slice A n c] w fun e w' => e = .returned (.bool (L.all (fliesB (absN h l fs)))) ∧ Below w.heap.size w w' := by
  have HL := Lib.hid hL.1
  have hb0 := Below.new_ w (.cells #[.int .i64 h.id, .int .i64 h.cf.1, .int .i64 h.cf.2.1, .int .i64 h.cf.2.2.1, .int .i64 h.cf.2.2.2.1, .int .i64 h.cf.2.2.2.2.1, .int .i64 h.cf.2.2.2.2.2.1, .int .i64 h.cf.2.2.2.2.2.2.1, .int .i64 h.cf.2.2.2.2.2.2.2.1, .int .i64 h.cf.2.2.2.2.2.2.2.2, .slice h.kA h.kn h.kc, .slice h.fA h.fn h.fc, .bool h.over] 29)
  have hR : NmRow (w.alloc (.cells #[.int .i64 h.id, .int .i64 h.cf.1, .int .i64 h.cf.2.1, .int .i64 h.cf.2.2.1, .int .i64 h.cf.2.2.2.1, .int .i64 h.cf.2.2.2.2.1, .int .i64 h.cf.2.2.2.2.2.1, .int .i64 h.cf.2.2.2.2.2.2.1, .int .i64 h.cf.2.2.2.2.2.2.2.1, .int .i64 h.cf.2.2.2.2.2.2.2.2, .slice h.kA h.kn h.kc, .slice h.fA h.fn h.fc, .bool h.over] 29)) w.heap.size h := heap_alloc_new w (.cells #[.int .i64 h.id, .int .i64 h.cf.1, .int .i64 h.cf.2.1, .int .i64 h.cf.2.2.1, .int .i64 h.cf.2.2.2.1, .int .i64 h.cf.2.2.2.2.1, .int .i64 h.cf.2.2.2.2.2.1, .int .i64 h.cf.2.2.2.2.2.2.1, .int .i64 h.cf.2.2.2.2.2.2.2.1, .int .i64 h.cf.2.2.2.2.2.2.2.2, .slice h.kA h.kn h.kc, .slice h.fA h.fn h.fc, .bool h.over] 29)
  go_enter Try.func24, Try.ntmps24
  go_wp2_with fail
  generalize (w.alloc (.cells #[.int .i64 h.id, .int .i64 h.cf.1, .int .i64 h.cf.2.1, .int .i64 h.cf.2.2.1, .int .i64 h.cf.2.2.2.1, .int .i64 h.cf.2.2.2.2.1, .int .i64 h.cf.2.2.2.2.2.1, .int .i64 h.cf.2.2.2.2.2.2.1, .int .i64 h.cf.2.2.2.2.2.2.2.1, .int .i64 h.cf.2.2.2.2.2.2.2.2, .slice h.kA h.kn h.kc, .slice h.fA h.fn h.fc, .bool h.over] 29)) = W at hb0 hR ⊢
  go_loopw [5] (fun s5 wr => ∃ k : Nat, k ≤ n ∧ s5 = .int .i64 k ∧ Hid ((L.take k).all (fliesB (absN h l fs)) = true) ∧ Below W.heap.size W wr) (fun s5 _ => n - (intOf s5).toNat)
  case atStart => exact ⟨0, Nat.zero_le _, rfl, by show _ = _; simp, Below.refl _ _⟩
  case round =>
    obtain ⟨k, hk, rfl, hall, hbr⟩ := hrel
    have hb := hb0.trans (hbr.mono hb0.size)
    have hR2 : NmRow wr w.heap.size h := (hbr.block _ hR.lt).trans hR
    by_cases hlt : k < n
    · obtain ⟨b, off, s, hA, hbb, hx, c0⟩ := Strs.cells (hL.below hb) hlt
      rw [hA]
      have lb : b < wr.heap.size := by have := hb.size; omega
      have hF : Fls wr wr.heap.size h.fA h.fn (fs.map (·.1)) := (hN.f.1.below hb).more hb.size
      have hf := flies_idx (fs := fs) (h := h) (l := l) (s := s)
      have i0 : (0 : Int) ≤ (k : Int) := by omega
      have i1 : (k : Int) < (n : Int) := by omega
      clear hA
      cases hfl : fliesB (absN h l fs) s
      · rw [hfl, if_neg (by simp)] at hf
        have HF := Lib.hid hf
        have hfin : Hid (L.all (fliesB (absN h l fs)) = false) := by
          show _ = _
          rw [List.all_eq_false]
          exact ⟨s, List.mem_of_getElem? hx.out, by rw [hfl]; simp⟩
        clear hf hfl
        go_upto_region 4 with fail
        have hS : Below wr.heap.size wr wr.drew := (Below.refl _ _).drew
        refine wp_region_held_drew (S := (fun wx => Below wr.heap.size wr wx)) (by kernel_rfl) ?_ (fun hHeld => ?_)
        · (try dsimp only); first | done | ((first | exact hS | skip))
        refine wpAnyH_take (i := 0) (v := (.agg #[.int .i64 h.id, .int .i64 h.cf.1, .int .i64 h.cf.2.1, .int .i64 h.cf.2.2.1, .int .i64 h.cf.2.2.2.1, .int .i64 h.cf.2.2.2.2.1, .int .i64 h.cf.2.2.2.2.2.1, .int .i64 h.cf.2.2.2.2.2.2.1, .int .i64 h.cf.2.2.2.2.2.2.2.1, .int .i64 h.cf.2.2.2.2.2.2.2.2, .slice h.kA h.kn h.kc, .slice h.fA h.fn h.fc, .bool h.over])) rfl (by kernel_rfl) (by kernel_rfl) (by kernel_rfl) (fun _ _ _ h => h) (Or.inl ⟨by rfl, ?_⟩) hHeld ?_
        · intro wq hSw; (try dsimp only at hSw); exact exec_loadRow 29 _ rfl w.heap.size rfl 29 _ _ _ ((hSw.block _ hR2.lt).trans hR2) Try.underlying29 rfl (by kernel_rfl)
        try simp only [Act.put, List.getElem_toArray, List.getElem_cons_succ, List.getElem_cons_zero, List.setIfInBounds_toArray, List.set_cons_zero, List.set_cons_succ]
        first
          | (refine wpAnyH_take (i := 1) (v := ?_) rfl (by kernel_rfl) (by kernel_rfl) (by kernel_rfl) (fun _ _ _ h => h) (Or.inl ⟨by rfl, ?_⟩) hHeld ?_; rotate_left; (intro wq hSw; (try dsimp only at hSw); go_simp; done))
          | (refine wpAnyH_take (i := 1) (v := ?_) rfl (by kernel_rfl) (by kernel_rfl) (by kernel_rfl) (fun _ _ _ h => h) (Or.inl ⟨by rfl, ?_⟩) hHeld ?_; rotate_left; (intro wq hSw; (try dsimp only at hSw); go_simp; with_reducible rfl))
          | refine wpAnyH_take (i := 1) (v := undef) rfl (by kernel_rfl) (by kernel_rfl) (by kernel_rfl) (fun _ _ _ h => h) (Or.inr ⟨by rfl, rfl⟩) hHeld ?_
        try simp only [Act.put, List.getElem_toArray, List.getElem_cons_succ, List.getElem_cons_zero, List.setIfInBounds_toArray, List.set_cons_zero, List.set_cons_succ]
        first
          | (refine wpAnyH_take (i := 2) (v := ?_) rfl (by kernel_rfl) (by kernel_rfl) (by kernel_rfl) (fun _ _ _ h => h) (Or.inl ⟨by rfl, ?_⟩) hHeld ?_; rotate_left; (intro wq hSw; (try dsimp only at hSw); go_simp; done))
          | (refine wpAnyH_take (i := 2) (v := ?_) rfl (by kernel_rfl) (by kernel_rfl) (by kernel_rfl) (fun _ _ _ h => h) (Or.inl ⟨by rfl, ?_⟩) hHeld ?_; rotate_left; (intro wq hSw; (try dsimp only at hSw); go_simp; with_reducible rfl))
          | refine wpAnyH_take (i := 2) (v := undef) rfl (by kernel_rfl) (by kernel_rfl) (by kernel_rfl) (fun _ _ _ h => h) (Or.inr ⟨by rfl, rfl⟩) hHeld ?_
        try simp only [Act.put, List.getElem_toArray, List.getElem_cons_succ, List.getElem_cons_zero, List.setIfInBounds_toArray, List.set_cons_zero, List.set_cons_succ]
        first
          | (refine wpAnyH_take (i := 3) (v := ?_) rfl (by kernel_rfl) (by kernel_rfl) (by kernel_rfl) (fun _ _ _ h => h) (Or.inl ⟨by rfl, ?_⟩) hHeld ?_; rotate_left; (intro wq hSw; (try dsimp only at hSw); go_simp; done))
          | (refine wpAnyH_take (i := 3) (v := ?_) rfl (by kernel_rfl) (by kernel_rfl) (by kernel_rfl) (fun _ _ _ h => h) (Or.inl ⟨by rfl, ?_⟩) hHeld ?_; rotate_left; (intro wq hSw; (try dsimp only at hSw); go_simp; with_reducible rfl))
          | refine wpAnyH_take (i := 3) (v := undef) rfl (by kernel_rfl) (by kernel_rfl) (by kernel_rfl) (fun _ _ _ h => h) (Or.inr ⟨by rfl, rfl⟩) hHeld ?_
        try simp only [Act.put, List.getElem_toArray, List.getElem_cons_succ, List.getElem_cons_zero, List.setIfInBounds_toArray, List.set_cons_zero, List.set_cons_succ]
        first
          | (refine wpAnyH_take (i := 4) (v := ?_) rfl (by kernel_rfl) (by kernel_rfl) (by kernel_rfl) (fun _ _ _ h => h) (Or.inl ⟨by rfl, ?_⟩) hHeld ?_; rotate_left; (intro wq hSw; (try dsimp only at hSw); have v4 := (hSw.cell (p := ⟨b, off + k, none⟩) lb).trans c0; go_simp; done))
          | (refine wpAnyH_take (i := 4) (v := ?_) rfl (by kernel_rfl) (by kernel_rfl) (by kernel_rfl) (fun _ _ _ h => h) (Or.inl ⟨by rfl, ?_⟩) hHeld ?_; rotate_left; (intro wq hSw; (try dsimp only at hSw); have v4 := (hSw.cell (p := ⟨b, off + k, none⟩) lb).trans c0; go_simp; with_reducible rfl))
          | refine wpAnyH_take (i := 4) (v := undef) rfl (by kernel_rfl) (by kernel_rfl) (by kernel_rfl) (fun _ _ _ h => h) (Or.inr ⟨by rfl, rfl⟩) hHeld ?_
        try simp only [Act.put, List.getElem_toArray, List.getElem_cons_succ, List.getElem_cons_zero, List.setIfInBounds_toArray, List.set_cons_zero, List.set_cons_succ]
        refine wpAnyH_ready (rs := [5]) (by kernel_rfl) (by simp) ?_
        refine AllReadyH.cons rfl (fun K hK => ?_) AllReadyH.nil
        go_simp; go_at_call 38; refine (rflying_any h (fs.map (·.1)) s _ _ HF.out ((hF.below' hS (Nat.le_refl _)).more hS.size) hfn).mono ?_; rintro e wx ⟨rfl, hbx⟩; replace hS := hS.trans (hbx.mono hS.size); clear hbx; try go_wp2_with fail
        refine hK.out _ _ ?_ (fun hHeld => ?_)
        · (try dsimp only); first | done | ((first | exact hS | skip))
        clear hK K
        try simp only [Act.put, List.getElem_toArray, List.getElem_cons_succ, List.getElem_cons_zero, List.setIfInBounds_toArray, List.set_cons_zero, List.set_cons_succ]
        first
          | (refine wpAnyH_take (i := 6) (v := ?_) rfl (by kernel_rfl) (by kernel_rfl) (by kernel_rfl) (fun _ _ _ h => h) (Or.inl ⟨by rfl, ?_⟩) hHeld ?_; rotate_left; (intro wq hSw; (try dsimp only at hSw); go_simp; done))
          | (refine wpAnyH_take (i := 6) (v := ?_) rfl (by kernel_rfl) (by kernel_rfl) (by kernel_rfl) (fun _ _ _ h => h) (Or.inl ⟨by rfl, ?_⟩) hHeld ?_; rotate_left; (intro wq hSw; (try dsimp only at hSw); go_simp; with_reducible rfl))
          | refine wpAnyH_take (i := 6) (v := undef) rfl (by kernel_rfl) (by kernel_rfl) (by kernel_rfl) (fun _ _ _ h => h) (Or.inr ⟨by rfl, rfl⟩) hHeld ?_
        try simp only [Act.put, List.getElem_toArray, List.getElem_cons_succ, List.getElem_cons_zero, List.setIfInBounds_toArray, List.set_cons_zero, List.set_cons_succ]
        refine wpAnyH_done (by kernel_rfl) ?_ _
        (have hfin2 := hb.trans (hS.mono hb.size); go_wp2_with fail; go_ret; exact ⟨ret_bool hfin.out.symm, hfin2⟩)
      · obtain ⟨q, hq⟩ : ∃ q : Nat, q = (placeF (absF fs) s).getD 0 := ⟨_, rfl⟩
        rw [hfl, if_pos rfl, ← hq] at hf
        have HF := Lib.hid hf
        have hno2 : Hid ((L.take (k + 1)).all (fliesB (absN h l fs)) = true) := by
          show _ = _
          rw [take_succ_of hx.out, List.all_append, hall.out]
          simp [hfl]
        clear hf hfl hq
        have q0 : decide ((q : Int) < 0) = false := by simp
        go_upto_region 4 with fail
        have hS : Below wr.heap.size wr wr.drew := (Below.refl _ _).drew
        refine wp_region_held_drew (S := (fun wx => Below wr.heap.size wr wx)) (by kernel_rfl) ?_ (fun hHeld => ?_)
        · (try dsimp only); first | done | ((first | exact hS | skip))
        refine wpAnyH_take (i := 0) (v := (.agg #[.int .i64 h.id, .int .i64 h.cf.1, .int .i64 h.cf.2.1, .int .i64 h.cf.2.2.1, .int .i64 h.cf.2.2.2.1, .int .i64 h.cf.2.2.2.2.1, .int .i64 h.cf.2.2.2.2.2.1, .int .i64 h.cf.2.2.2.2.2.2.1, .int .i64 h.cf.2.2.2.2.2.2.2.1, .int .i64 h.cf.2.2.2.2.2.2.2.2, .slice h.kA h.kn h.kc, .slice h.fA h.fn h.fc, .bool h.over])) rfl (by kernel_rfl) (by kernel_rfl) (by kernel_rfl) (fun _ _ _ h => h) (Or.inl ⟨by rfl, ?_⟩) hHeld ?_
        · intro wq hSw; (try dsimp only at hSw); exact exec_loadRow 29 _ rfl w.heap.size rfl 29 _ _ _ ((hSw.block _ hR2.lt).trans hR2) Try.underlying29 rfl (by kernel_rfl)
        try simp only [Act.put, List.getElem_toArray, List.getElem_cons_succ, List.getElem_cons_zero, List.setIfInBounds_toArray, List.set_cons_zero, List.set_cons_succ]
        first
          | (refine wpAnyH_take (i := 1) (v := ?_) rfl (by kernel_rfl) (by kernel_rfl) (by kernel_rfl) (fun _ _ _ h => h) (Or.inl ⟨by rfl, ?_⟩) hHeld ?_; rotate_left; (intro wq hSw; (try dsimp only at hSw); go_simp; done))
          | (refine wpAnyH_take (i := 1) (v := ?_) rfl (by kernel_rfl) (by kernel_rfl) (by kernel_rfl) (fun _ _ _ h => h) (Or.inl ⟨by rfl, ?_⟩) hHeld ?_; rotate_left; (intro wq hSw; (try dsimp only at hSw); go_simp; with_reducible rfl))
          | refine wpAnyH_take (i := 1) (v := undef) rfl (by kernel_rfl) (by kernel_rfl) (by kernel_rfl) (fun _ _ _ h => h) (Or.inr ⟨by rfl, rfl⟩) hHeld ?_
        try simp only [Act.put, List.getElem_toArray, List.getElem_cons_succ, List.getElem_cons_zero, List.setIfInBounds_toArray, List.set_cons_zero, List.set_cons_succ]
        first
          | (refine wpAnyH_take (i := 2) (v := ?_) rfl (by kernel_rfl) (by kernel_rfl) (by kernel_rfl) (fun _ _ _ h => h) (Or.inl ⟨by rfl, ?_⟩) hHeld ?_; rotate_left; (intro wq hSw; (try dsimp only at hSw); go_simp; done))
          | (refine wpAnyH_take (i := 2) (v := ?_) rfl (by kernel_rfl) (by kernel_rfl) (by kernel_rfl) (fun _ _ _ h => h) (Or.inl ⟨by rfl, ?_⟩) hHeld ?_; rotate_left; (intro wq hSw; (try dsimp only at hSw); go_simp; with_reducible rfl))
          | refine wpAnyH_take (i := 2) (v := undef) rfl (by kernel_rfl) (by kernel_rfl) (by kernel_rfl) (fun _ _ _ h => h) (Or.inr ⟨by rfl, rfl⟩) hHeld ?_
        try simp only [Act.put, List.getElem_toArray, List.getElem_cons_succ, List.getElem_cons_zero, List.setIfInBounds_toArray, List.set_cons_zero, List.set_cons_succ]
        first
          | (refine wpAnyH_take (i := 3) (v := ?_) rfl (by kernel_rfl) (by kernel_rfl) (by kernel_rfl) (fun _ _ _ h => h) (Or.inl ⟨by rfl, ?_⟩) hHeld ?_; rotate_left; (intro wq hSw; (try dsimp only at hSw); go_simp; done))
          | (refine wpAnyH_take (i := 3) (v := ?_) rfl (by kernel_rfl) (by kernel_rfl) (by kernel_rfl) (fun _ _ _ h => h) (Or.inl ⟨by rfl, ?_⟩) hHeld ?_; rotate_left; (intro wq hSw; (try dsimp only at hSw); go_simp; with_reducible rfl))
          | refine wpAnyH_take (i := 3) (v := undef) rfl (by kernel_rfl) (by kernel_rfl) (by kernel_rfl) (fun _ _ _ h => h) (Or.inr ⟨by rfl, rfl⟩) hHeld ?_
        try simp only [Act.put, List.getElem_toArray, List.getElem_cons_succ, List.getElem_cons_zero, List.setIfInBounds_toArray, List.set_cons_zero, List.set_cons_succ]
        first
          | (refine wpAnyH_take (i := 4) (v := ?_) rfl (by kernel_rfl) (by kernel_rfl) (by kernel_rfl) (fun _ _ _ h => h) (Or.inl ⟨by rfl, ?_⟩) hHeld ?_; rotate_left; (intro wq hSw; (try dsimp only at hSw); have v4 := (hSw.cell (p := ⟨b, off + k, none⟩) lb).trans c0; go_simp; done))
          | (refine wpAnyH_take (i := 4) (v := ?_) rfl (by kernel_rfl) (by kernel_rfl) (by kernel_rfl) (fun _ _ _ h => h) (Or.inl ⟨by rfl, ?_⟩) hHeld ?_; rotate_left; (intro wq hSw; (try dsimp only at hSw); have v4 := (hSw.cell (p := ⟨b, off + k, none⟩) lb).trans c0; go_simp; with_reducible rfl))
          | refine wpAnyH_take (i := 4) (v := undef) rfl (by kernel_rfl) (by kernel_rfl) (by kernel_rfl) (fun _ _ _ h => h) (Or.inr ⟨by rfl, rfl⟩) hHeld ?_
        try simp only [Act.put, List.getElem_toArray, List.getElem_cons_succ, List.getElem_cons_zero, List.setIfInBounds_toArray, List.set_cons_zero, List.set_cons_succ]
        refine wpAnyH_ready (rs := [5]) (by kernel_rfl) (by simp) ?_
        refine AllReadyH.cons rfl (fun K hK => ?_) AllReadyH.nil
        go_simp; go_at_call 38; refine (rflying_any h (fs.map (·.1)) s _ _ HF.out ((hF.below' hS (Nat.le_refl _)).more hS.size) hfn).mono ?_; rintro e wx ⟨rfl, hbx⟩; replace hS := hS.trans (hbx.mono hS.size); clear hbx; try go_wp2_with fail
        refine hK.out _ _ ?_ (fun hHeld => ?_)
        · (try dsimp only); first | done | ((first | exact hS | skip))
        clear hK K
        try simp only [Act.put, List.getElem_toArray, List.getElem_cons_succ, List.getElem_cons_zero, List.setIfInBounds_toArray, List.set_cons_zero, List.set_cons_succ]
        first
          | (refine wpAnyH_take (i := 6) (v := ?_) rfl (by kernel_rfl) (by kernel_rfl) (by kernel_rfl) (fun _ _ _ h => h) (Or.inl ⟨by rfl, ?_⟩) hHeld ?_; rotate_left; (intro wq hSw; (try dsimp only at hSw); go_simp; done))
          | (refine wpAnyH_take (i := 6) (v := ?_) rfl (by kernel_rfl) (by kernel_rfl) (by kernel_rfl) (fun _ _ _ h => h) (Or.inl ⟨by rfl, ?_⟩) hHeld ?_; rotate_left; (intro wq hSw; (try dsimp only at hSw); go_simp; with_reducible rfl))
          | refine wpAnyH_take (i := 6) (v := undef) rfl (by kernel_rfl) (by kernel_rfl) (by kernel_rfl) (fun _ _ _ h => h) (Or.inr ⟨by rfl, rfl⟩) hHeld ?_
        try simp only [Act.put, List.getElem_toArray, List.getElem_cons_succ, List.getElem_cons_zero, List.setIfInBounds_toArray, List.set_cons_zero, List.set_cons_succ]
        refine wpAnyH_done (by kernel_rfl) ?_ _
        (have hfin2 := hbr.trans (hS.mono hbr.size); go_wp2_with fail; go_roundw; (case rel => exact ⟨k + 1, by omega, by go_num, hno2, hfin2⟩); (case measure => simp [intOf]; omega))
    · have hfin : Hid (L.all (fliesB (absN h l fs)) = true) := by
        have := hall.out
        rw [List.take_of_length_le (by rw [HL.out]; omega)] at this
        exact this
      go_wp2_with fail
      go_ret
      exact ⟨ret_bool hfin.out.symm, hb⟩
set_option maxHeartbeats 4000000 in
theorem eqLt_self (d : Nat) (m : Lt) (w : World) : (Op.equalIn (d + 1 + 1) 40 (.agg #[.int .i8 m.k, .int .i64 m.f, .int .i64 m.n, .int .i64 m.s, .string m.t, .int .i64 m.e]) (.agg #[.int .i8 m.k, .int .i64 m.f, .int .i64 m.n, .int .i64 m.s, .string m.t, .int .i64 m.e])).run Try.prog w = .ok true w := by
  have u3 := Try.underlying3
  have u4 := Try.underlying37
  have u5 := Try.underlying9
  have u6 := Try.underlying38
  have hS : Try.prog.underlying 40 = some (.struct (Try.prog.fieldsOf 40)) := by kernel_rfl
  have hp : Try.prog.stoodInHeld 40 = false := by kernel_rfl
  rw [run_equalIn_agg w (d + 1) 40 _ _ hS hp]
  simp only [Program.fieldsOf, Try.underlying40]
  go_simp
set_option maxHeartbeats 4000000 in
theorem eqOf_self (x : OfR) (w : World) : (Op.equalIn 10000 103 (.agg #[.int .i8 x.1, .int .i64 x.2.1, .int .i8 x.2.2.1, .int .i64 x.2.2.2.1, .int .i64 x.2.2.2.2.1, .int .i64 x.2.2.2.2.2, .string ⟨#[]⟩, .int .i64 0, .int .i64 0]) (.agg #[.int .i8 x.1, .int .i64 x.2.1, .int .i8 x.2.2.1, .int .i64 x.2.2.2.1, .int .i64 x.2.2.2.2.1, .int .i64 x.2.2.2.2.2, .string ⟨#[]⟩, .int .i64 0, .int .i64 0])).run Try.prog w = .ok true w := by
  have u3 := Try.underlying3
  have u4 := Try.underlying37
  have hS : Try.prog.underlying 103 = some (.struct (Try.prog.fieldsOf 103)) := by kernel_rfl
  have hp : Try.prog.stoodInHeld 103 = false := by kernel_rfl
  have hL := fun wx => eqLt_self 9997 ⟨x.2.2.1, x.2.2.2.1, x.2.2.2.2.1, x.2.2.2.2.2, ⟨#[]⟩, 0⟩ wx
  rw [show (10000 : Nat) = 9997 + 1 + 1 + 1 from rfl, run_equalIn_agg w (9997 + 1 + 1) 103 _ _ hS hp]
  simp only [Program.fieldsOf, Try.underlying103]
  go_simp
end Go.Proofs.Ytfahmfaakjnpcaa
