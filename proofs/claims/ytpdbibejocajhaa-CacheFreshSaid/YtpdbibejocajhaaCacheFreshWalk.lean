/-
  The walk of the statement CacheFresh. Conditions: none.
-/
import Derived.Test.YtpdbibejocajhaaKnAt
import Derived.Test.YtpdbibejocajhaaCacheFreshPlain
namespace Go.Proofs.Ytpdbibejocajhaa
set_option linter.unusedVariables false
set_option linter.unusedSimpArgs false
open Go.RowKit Go.Shelf

structure StF (w0 w : World) (A : Option Addr) (n : Nat) (l : List Kn) : Prop where
  b : Below w0.heap.size w0 w
  l : Kns w w.heap.size A n l
theorem StF.next {w0 w w' : World} {A : Option Addr} {n : Nat} {l : List Kn} (h : StF w0 w A n l) (hb : Below w.heap.size w w') : StF w0 w' A n l :=
  ⟨h.b.trans (hb.mono h.b.size), (h.l.below hb).more hb.size⟩
theorem StF.drewN {w0 w : World} {A : Option Addr} {n : Nat} {l : List Kn} (h : StF w0 w A n l) (m : Nat) : StF w0 (w.drewN m) A n l := h.next ⟨rfl, rfl, rfl, Nat.le_refl _, fun _ _ => rfl⟩
theorem bdrewN {B : Nat} {w w' : World} (h : Below B w w') (m : Nat) : Below B w (w'.drewN m) := ⟨h.os, h.tape, h.output, h.size, h.block⟩
theorem flen_at {A : Option Addr} {n c : Nat} {l : List Kn} {now : Int} {w : World} (hl : Kns w w.heap.size A n l) (hn : n ≤ 1000) {m : Nat} (hm : (freshK l now).length = m) :
    Calls Try.prog 11 #[.slice A n c, .int .i64 now] w fun e w' => ∃ A' c', e = .returned (.slice A' m c') ∧ Below w.heap.size w w' :=
  (fresh_at hl hn rfl hm).mono fun e w' ⟨A', c', a, _, b⟩ => ⟨A', c', a, b⟩
set_option maxRecDepth 100000 in
set_option maxHeartbeats 16000000 in
theorem CacheFresh_walk (A : Option Addr) (n c : Nat) (l : List Kn) (now later : Int) (w : World) (hl : Kns w w.heap.size A n l) (hn : n ≤ 9223372036854775807) :
    Calls Try.prog 3 #[.slice A n c, .int .i64 now, .int .i64 later] w fun e w' => e = .returned (.bool true) ∧ Below w.heap.size w w' := by
  have HL := Lib.hid hl.1
  have hst : StF w w A n l := ⟨Below.refl _ _, hl⟩
  clear hl
  go_enter Try.func3, Try.ntmps3
  go_wp2_with fail
  refine (Great11_any _ _ _ l _ hst.l hn).mono ?_
  rintro e w1 ⟨b1, rfl, h60, hb1⟩
  replace hst := hst.next hb1
  clear hb1
  cases b1
  · have hn2 : n ≤ 60 := h60 rfl
    clear h60
    go_wp2_with fail
    refine (rMay_any _ _ _ l _ hst.l (by omega)).mono ?_
    cases hmay : mayK l
    · rintro e w2 ⟨rfl, hb2⟩
      replace hst := hst.next hb2
      clear hb2
      go_wp2_with fail
      refine (wakes11_any _).mono ?_
      rintro e w19 ⟨rfl, hb19⟩
      go_wp2_with fail
      go_ret
      exact ⟨rfl, hst.b.trans (hb19.mono hst.b.size)⟩
    · rintro e w2 ⟨rfl, hb2⟩
      replace hst := hst.next hb2
      clear hb2
      by_cases hle : later < now
      · go_wp2_with fail
        refine (wakes11_any _).mono ?_
        rintro e w19 ⟨rfl, hb19⟩
        go_wp2_with fail
        go_ret
        exact ⟨rfl, hst.b.trans (hb19.mono hst.b.size)⟩
      · have hle2 : now ≤ later := by omega
        have hle3 : decide (later < now) = false := by simpa using hle
        have hsrt := (mayFrom_srt hmay).2
        obtain ⟨F1, hF1⟩ : ∃ F, freshK l now = F := ⟨_, rfl⟩
        obtain ⟨m1, hm1⟩ : ∃ m, F1.length = m := ⟨_, rfl⟩
        obtain ⟨F2, hF2⟩ : ∃ F, freshK l later = F := ⟨_, rfl⟩
        obtain ⟨m2, hm2⟩ : ∃ m, F2.length = m := ⟨_, rfl⟩
        have hF3 : freshK F1 later = F2 := by rw [← hF1, ← hF2]; exact freshK_freshK l hle2
        have hb1 : m1 ≤ n := by have := freshK_le l now; rw [hF1, hm1, HL.out] at this; exact this
        have hb2 : m2 ≤ m1 := by have := fresh_mono_len l hle2; rw [hF1, hF2, hm1, hm2] at this; exact this
        have HF1 := Lib.hid hF1
        have HF2 := Lib.hid hF2
        have HF3 := Lib.hid hF3
        have HM1 := Lib.hid hm1
        have HM2 := Lib.hid hm2
        have HS := Lib.hid hsrt
        clear hF1 hF2 hF3 hm1 hm2 hsrt hmay hle2
        go_wp2_with fail
        refine (fresh_at hst.l (by omega) HF1.out HM1.out).mono ?_
        rintro e w3 ⟨A7, c7, rfl, h7, hb3⟩
        replace hst := hst.next hb3
        clear hb3
        go_wp2_with fail
        refine (fresh_at hst.l (by omega) HF2.out HM2.out).mono ?_
        rintro e w4 ⟨A8, c8, rfl, h8, hb4⟩
        replace hst := hst.next hb4
        replace h7 := (Recs.below h7 hb4).more hb4.size
        clear hb4
        go_wp2_with fail
        refine (fresh_at h7 (by omega) HF3.out HM2.out).mono ?_
        rintro e w5 ⟨A9, c9, rfl, h9, hb5⟩
        replace hst := hst.next hb5
        replace h7 := (Recs.below h7 hb5).more hb5.size
        replace h8 := (Recs.below h8 hb5).more hb5.size
        clear hb5
        go_wp2_with fail
        refine (same_at h9 h8 (by omega)).mono ?_
        rintro e w6 ⟨rfl, hb6⟩
        replace hst := hst.next hb6
        replace h7 := (Recs.below h7 hb6).more hb6.size
        clear hb6 h8 h9
        have hlen : decide (m1 < m2) = false := by simp; omega
        go_wp2_with fail
        go_loopw [9] (fun s9 wr => ∃ k : Nat, k ≤ m1 ∧ s9 = .int .i64 k ∧ StF w wr A n l ∧ Below w6.heap.size w6 wr) (fun s9 _ => m1 - (intOf s9).toNat)
        case atStart => exact ⟨0, Nat.zero_le _, rfl, hst, Below.refl _ _⟩
        case round =>
          clear hst
          obtain ⟨k, hk, rfl, hst, hbr⟩ := hrel
          by_cases hlt : k < m1
          · obtain ⟨b, off, x, hA7, hbb, hx, hc0, hc1, hc2, hc3⟩ := Kns.cells ((Recs.below h7 hbr).more hbr.size) hlt
            subst hA7
            have hg : getK l x.1 now = some x := getK_fresh HS.out (by rw [HF1.out]; exact List.mem_of_getElem? hx.out)
            have HG1 : Hid (gotK (getK l x.1 now) = x) := (by show _ = _; rw [hg]; rfl)
            have HG2 : Hid ((getK l x.1 now).isSome = true) := (by show _ = _; rw [hg]; rfl)
            have i0 : (0 : Int) ≤ (k : Int) := by omega
            have i1 : (k : Int) < (m1 : Int) := by omega
            clear hg
            go_wp2_with fail
            refine (get_at hst.l (by omega) HG1.out HG2.out).mono ?_
            rintro e w7 ⟨rfl, hb7⟩
            replace hst := (hst.next hb7).next (Below.new_ w7 (.cells #[.string x.1, .string x.2.1, .int .i64 x.2.2.1, .int .i64 x.2.2.2] 30))
            have hb8 := hb7.trans ((Below.new_ w7 (.cells #[.string x.1, .string x.2.1, .int .i64 x.2.2.1, .int .i64 x.2.2.2] 30)).mono hb7.size)
            have hbr2 := hbr.trans (hb8.mono hbr.size)
            have v0 := (hb8.cell (p := ⟨b, off + k * 4, none⟩) hbb).trans hc0
            have v1 := (hb8.cell (p := ⟨b, off + k * 4 + 1, none⟩) hbb).trans hc1
            have v2 := (hb8.cell (p := ⟨b, off + k * 4 + 2, none⟩) hbb).trans hc2
            have v3 := (hb8.cell (p := ⟨b, off + k * 4 + 3, none⟩) hbb).trans hc3
            obtain ⟨z0, z1, z2, z3⟩ := kn_cells (heap_alloc_new w7 (.cells #[.string x.1, .string x.2.1, .int .i64 x.2.2.1, .int .i64 x.2.2.2] 30))
            have hE := fun wx => eqKn_self x wx
            clear hb7 hb8 hc0 hc1 hc2 hc3
            go_wp2_with fail
            go_quiet (fail)
            go_wp2_with fail
            go_roundw
            case rel => exact ⟨k + 1, by omega, by go_num, hst.drewN _, bdrewN hbr2 _⟩
            case measure => simp [intOf]; omega
          · clear hbr h7
            go_wp2_with fail
            clear hlt hk
            go_loop [12, 13] (fun s12 s13 => ∃ j : Nat, j ≤ n ∧ s13 = .int .i64 j ∧ s12 = .int .i64 (lastK (l.take j))) (fun _ s13 => n - (intOf s13).toNat)
            case atStart => exact ⟨0, Nat.zero_le _, rfl, rfl⟩
            case round =>
              obtain ⟨j, hj, rfl, rfl⟩ := hrel
              by_cases hlt : j < n
              · obtain ⟨b, off, x, hAA, hbb, hx, hc0, hc1, hc2, hc3⟩ := Kns.cells hst.l hlt
                subst hAA
                have i0 : (0 : Int) ≤ (j : Int) := by omega
                have i1 : (j : Int) < (n : Int) := by omega
                have hla := lastK_take hx.out
                obtain ⟨p, hp⟩ : ∃ p, p = lastK (l.take j) := ⟨_, rfl⟩
                rw [← hp] at hla ⊢
                have HLA := Lib.hid hla
                clear hla hp
                go_wp2_with (go_at_call 14; refine (rClamp_any _ _).mono ?_; rintro e w' ⟨rfl, rfl⟩)
                go_round
                case rel => exact ⟨j + 1, by omega, by go_num, by rw [HLA.out]⟩
                case measure => simp [intOf]; omega
              · obtain rfl : j = n := by omega
                have ht : l.take j = l := List.take_of_length_le (by rw [HL.out]; omega)
                rw [ht]
                clear ht hlt
                have hfl := fresh_last l
                have hlen0 : (freshK l (lastK l)).length = 0 := by rw [hfl]; rfl
                have HLEN0 := Lib.hid hlen0
                clear hfl hlen0
                obtain ⟨la, hla⟩ : ∃ la, la = lastK l := ⟨_, rfl⟩
                rw [← hla] at HLEN0 ⊢
                clear hla
                by_cases hj0 : j = 0
                · have hl0 : l = [] := List.eq_nil_of_length_eq_zero (by rw [HL.out]; exact hj0)
                  have hm10 : m1 = 0 := by omega
                  have HU : Hid (untilK l = (-1, 0)) := (by show _ = _; rw [hl0]; rfl)
                  have q0 : ((j : Int) == 0) = true := by simp; omega
                  have q1 : ((m1 : Int) == 0) = true := by simp; omega
                  clear hl0 hj0 hm10
                  go_wp2_with fail
                  refine (UntilKn_any _ _ _ l _ hst.l (by omega)).mono ?_
                  rw [HU.out]
                  rintro e w8 ⟨rfl, hb8⟩
                  replace hst := hst.next hb8
                  clear hb8
                  go_wp2_with fail
                  refine (wakes11_any _).mono ?_
                  rintro e w19 ⟨rfl, hb19⟩
                  go_wp2_with fail
                  go_ret
                  exact ⟨rfl, hst.b.trans (hb19.mono hst.b.size)⟩
                · have hne : l ≠ [] := by intro e; have := HL.out; rw [e] at this; simp at this; omega
                  have hU := until_is hne
                  obtain ⟨a, ha⟩ : ∃ a, (untilK l).1 = a := ⟨_, rfl⟩
                  obtain ⟨t, htt⟩ : ∃ t, (untilK l).2 = t := ⟨_, rfl⟩
                  rw [ha, htt] at hU
                  have HA := Lib.hid ha
                  have HT := Lib.hid htt
                  obtain ⟨u1, u2, u3, u4, u5, u6⟩ := hU
                  rw [HL.out] at u2 u5 u6
                  obtain ⟨m5, hm5⟩ : ∃ m, (freshK l (t - 1)).length = m := ⟨_, rfl⟩
                  obtain ⟨m6, hm6⟩ : ∃ m, (freshK l t).length = m := ⟨_, rfl⟩
                  rw [hm5] at u5
                  rw [hm6] at u6
                  have HM5 := Lib.hid hm5
                  have HM6 := Lib.hid hm6
                  have HU5 := Lib.hid u5
                  have q0 : ((j : Int) == 0) = false := by simp; omega
                  have q6 : decide ((m6 : Int) < (j : Int)) = true := by simp; omega
                  clear ha htt hm5 hm6 u5 hne hj0
                  go_wp2_with fail
                  refine (UntilKn_any _ _ _ l _ hst.l (by omega)).mono ?_
                  rw [HA.out, HT.out]
                  rintro e w8 ⟨rfl, hb8⟩
                  replace hst := hst.next hb8
                  clear hb8
                  go_wp2_with fail
                  refine (flen_at hst.l (by omega) HLEN0.out).mono ?_
                  rintro e w10 ⟨A10, c10, rfl, hb10⟩
                  replace hst := hst.next hb10
                  clear hb10
                  by_cases ht0 : t = 0
                  · have q1 : (t == 0) = true := by simpa using ht0
                    clear ht0
                    go_wp2_with fail
                    refine (flen_at hst.l (by omega) HM6.out).mono ?_
                    rintro e w11 ⟨A11, c11, rfl, hb11⟩
                    replace hst := hst.next hb11
                    clear hb11
                    go_wp2_with fail
                    refine (wakes11_any _).mono ?_
                    rintro e w19 ⟨rfl, hb19⟩
                    go_wp2_with fail
                    go_ret
                    exact ⟨rfl, hst.b.trans (hb19.mono hst.b.size)⟩
                  · have q1 : (t == 0) = false := by simpa using ht0
                    have q2 := HU5.out ht0
                    have q3 : ((m5 : Int) == (j : Int)) = true := by simp; omega
                    clear ht0 q2
                    go_wp2_with fail
                    refine (flen_at hst.l (by omega) HM5.out).mono ?_
                    rintro e w11 ⟨A11, c11, rfl, hb11⟩
                    replace hst := hst.next hb11
                    clear hb11
                    go_wp2_with fail
                    refine (flen_at hst.l (by omega) HM6.out).mono ?_
                    rintro e w12 ⟨A12, c12, rfl, hb12⟩
                    replace hst := hst.next hb12
                    clear hb12
                    go_wp2_with fail
                    refine (wakes11_any _).mono ?_
                    rintro e w19 ⟨rfl, hb19⟩
                    go_wp2_with fail
                    go_ret
                    exact ⟨rfl, hst.b.trans (hb19.mono hst.b.size)⟩
  · clear h60
    go_wp2_with fail
    refine (wakes11_any _).mono ?_
    rintro e w19 ⟨rfl, hb19⟩
    go_wp2_with fail
    go_ret
    exact ⟨rfl, hst.b.trans (hb19.mono hst.b.size)⟩
end Go.Proofs.Ytpdbibejocajhaa
