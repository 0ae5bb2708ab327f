/-
  What CallerCloses tells: the walk. Conditions: none.
-/
import Derived.Test.YtamfbbmkkhcnpaaCallerClosesPlain
namespace Go.Proofs.Ytamfbbmkkhcnpaa
open Go.RowKit

set_option maxRecDepth 100000 in
set_option maxHeartbeats 4000000 in
theorem CallerCloses_walk (id : Int) (A : Option Addr) (n c : Nat) (L : List Int) (bad : Int) (w : World) (hs0 : Ints w w.heap.size A n L) (hn0 : n ≤ 9223372036854775807) :
    Calls Try.prog 5 #[.int .i64 id, .slice A n c, .int .i64 bad] w fun e w' => e = .returned (.bool true) ∧ Below w.heap.size w w' := by
  have hb : Below w.heap.size w w := Below.refl _ _
  rcases (by omega : 8 < n ∨ (n ≤ 8 ∧ id < 0) ∨ (n ≤ 8 ∧ 0 ≤ id ∧ 1000 < id) ∨ (n ≤ 8 ∧ 0 ≤ id ∧ id ≤ 1000)) with h | ⟨h, h2⟩ | ⟨h, h2, h3⟩ | ⟨a1, a2, a3⟩
  · have d1 : decide (8 < n) = true := by simpa using h
    go_enter Try.func5, Try.ntmps5
    go_wp2_with fail
    refine (wakes_any _).mono ?_
    rintro e wz ⟨rfl, hbz⟩
    have hbE := hb.trans (hbz.mono hb.size)
    go_wp2_with fail
    go_ret
    exact ⟨rfl, hbE⟩
  · have d1 : decide (8 < n) = false := by simp; omega
    have d2 : decide (id < 0) = true := by simpa using h2
    go_enter Try.func5, Try.ntmps5
    go_wp2_with fail
    refine (wakes_any _).mono ?_
    rintro e wz ⟨rfl, hbz⟩
    have hbE := hb.trans (hbz.mono hb.size)
    go_wp2_with fail
    go_ret
    exact ⟨rfl, hbE⟩
  · have d1 : decide (8 < n) = false := by simp; omega
    have d2 : decide (id < 0) = false := by simp; omega
    have d3 : decide (1000 < id) = true := by simpa using h3
    go_enter Try.func5, Try.ntmps5
    go_wp2_with fail
    refine (wakes_any _).mono ?_
    rintro e wz ⟨rfl, hbz⟩
    have hbE := hb.trans (hbz.mono hb.size)
    go_wp2_with fail
    go_ret
    exact ⟨rfl, hbE⟩
  · have d1 : decide (8 < n) = false := by simp; omega
    have d2 : decide (id < 0) = false := by simp; omega
    have d3 : decide (1000 < id) = false := by simp; omega
    have hln := hs0.len
    subst hln
    go_enter Try.func5, Try.ntmps5
    go_wp2_with fail
    refine (Close_any id 1 A L.length c L _ hs0 (by omega)).mono ?_
    rintro e w1 ⟨y, A', c', D, dn, dc, rfl, HY, hs, hd, hbx⟩
    have HG : Hid (w.heap.size ≤ w1.heap.size) := hbx.size
    have HI0 : Hid (Ints w w.heap.size A L.length L) := hs0
    replace hb := hb.trans hbx
    clear hbx d1 d2 d3 hs0
    go_upto_region 4 with fail
    have hc := Cb.new_ w1 y
    replace hd := (hd.below (Below.new_ w1 (.cells #[.int .i64 y.id, .int .i64 y.done, .int .i8 y.op, .int .i64 y.owner, .int .i64 y.sock, .slice y.A y.n y.c, .int .i8 y.st, .int .i64 y.i, .int .i64 y.rt, .int .i64 y.rs, .int .i64 y.re] 30))).more (Below.new_ w1 (.cells #[.int .i64 y.id, .int .i64 y.done, .int .i8 y.op, .int .i64 y.owner, .int .i64 y.sock, .slice y.A y.n y.c, .int .i8 y.st, .int .i64 y.i, .int .i64 y.rt, .int .i64 y.rs, .int .i64 y.re] 30)).size
    replace hs := hs.below (Below.new_ w1 (.cells #[.int .i64 y.id, .int .i64 y.done, .int .i8 y.op, .int .i64 y.owner, .int .i64 y.sock, .slice y.A y.n y.c, .int .i8 y.st, .int .i64 y.i, .int .i64 y.rt, .int .i64 y.rs, .int .i64 y.re] 30))
    replace hb := hb.alloc hb.size (.cells #[.int .i64 y.id, .int .i64 y.done, .int .i8 y.op, .int .i64 y.owner, .int .i64 y.sock, .slice y.A y.n y.c, .int .i8 y.st, .int .i64 y.i, .int .i64 y.rt, .int .i64 y.rs, .int .i64 y.re] 30)
    generalize w1.heap.size = g at HG hc hs ⊢
    generalize w1.alloc (.cells #[.int .i64 y.id, .int .i64 y.done, .int .i8 y.op, .int .i64 y.owner, .int .i64 y.sock, .slice y.A y.n y.c, .int .i8 y.st, .int .i64 y.i, .int .i64 y.rt, .int .i64 y.rs, .int .i64 y.re] 30) = W at hc hd hs hb ⊢
    by_cases h0 : L.length = 0
    · have hL : L = [] := List.eq_nil_of_length_eq_zero h0
      clear h0
      subst hL
      simp only [List.length_nil, if_true] at hd
      have hdn : dn = 1 := by have := hd.len; simpa using this.symm
      subst hdn
      obtain ⟨bd, od, xd, rfl, hbd, hxd, k0, k1⟩ := Des.cells hd (i := 0) (by omega)
      have hx1 : xd = 1 := by have := hxd.out; simpa using this.symm
      clear hxd
      subst hx1
      simp only [Nat.zero_mul, Nat.add_zero] at k0 k1
      obtain ⟨c0, c1, c2, c3, c4, c5, c6, c7, c8, c9, c10⟩ := ca_cells hc
      have hE : ∀ wx, (Op.equalIn 10000 28 (.agg #[.int .i64 y.rt, .int .i64 y.rs, .int .i64 y.re]) (.agg #[.int .i64 id, .int .i64 (-1), .int .i64 0])).run Try.prog wx = .ok true wx := by
        intro wx
        rw [eqRp, HY.out]
        simp [closeC]
      have HOV : Hid (overB y = true) := by show _ = _; rw [HY.out]; rfl
      go_wp2_with fail
      refine (Over_one _ _ _ _ [] _ (Cas.new1 _ _ rfl y 30) (by first | omega | (simp; done) | (simp; omega)) (nilI (by rw [HY.out]; rfl) _ _) (by rw [HY.out]; simp [closeC])).mono ?_
      rintro e w9 ⟨rfl, hbx⟩
      rw [HOV.out]
      have hbN := (Below.new_ W (.cells #[.int .i64 y.id, .int .i64 y.done, .int .i8 y.op, .int .i64 y.owner, .int .i64 y.sock, .slice y.A y.n y.c, .int .i8 y.st, .int .i64 y.i, .int .i64 y.rt, .int .i64 y.rs, .int .i64 y.re] 30)).trans (hbx.mono (Below.new_ W (.cells #[.int .i64 y.id, .int .i64 y.done, .int .i8 y.op, .int .i64 y.owner, .int .i64 y.sock, .slice y.A y.n y.c, .int .i8 y.st, .int .i64 y.i, .int .i64 y.rt, .int .i64 y.rs, .int .i64 y.re] 30)).size)
      replace hd := (hd.below hbN).more hbN.size
      replace hc := hc.below hbN hc.lt
      replace hb := hb.trans (hbN.mono hb.size)
      clear hbN hbx k0 k1 c0 c1 c2 c3 c4 c5 c6 c7 c8 c9 c10
      obtain ⟨bd', od', xd, hDD, hbd', hxd, k0, k1⟩ := Des.cells hd (i := 0) (by omega)
      injection hDD with hDD
      injection hDD with e1 e2
      subst e1 e2
      have hx1 : xd = 1 := by have := hxd.out; simpa using this.symm
      clear hxd
      subst hx1
      simp only [Nat.zero_mul, Nat.add_zero] at k0 k1
      obtain ⟨c0, c1, c2, c3, c4, c5, c6, c7, c8, c9, c10⟩ := ca_cells hc
      go_wp2_with fail
      refine (wakes_any _).mono ?_
      rintro e wz ⟨rfl, hbz⟩
      have hbE := hb.trans (hbz.mono hb.size)
      go_wp2_with fail
      go_ret
      exact ⟨rfl, hbE⟩
    · have d0 : ((L.length : Int) == 0) = false := by rw [beq_eq_false_iff_ne]; omega
      have H0 := Lib.hid h0
      clear h0
      simp only [H0.out, if_false] at hd
      have hdn : dn = 0 := by have := hd.len; simpa using this.symm
      subst hdn
      go_wp2_with fail
      go_loopw [8, 9] (fun s8 s9 wr => ClRel id w g A' L.length c' L s8 s9 wr) (fun _ s9 _ => L.length - (intOf s9).toNat)
      case atStart => exact ⟨0, y, _, 0, _, Nat.zero_le _, rfl, rfl, by show _ = _; rw [HY.out]; unfold closeC ck; rw [if_neg H0.out, if_neg (fun h => H0.out h.symm)]; rfl, hc, hs, by rw [if_neg (fun h => H0.out h.symm)]; exact hd, hb⟩
      case round =>
        clear hc hs hd hb HY d0
        obtain ⟨k, y, D, dn, dc, hk, rfl, rfl, HY, hc, hs, hd, hb⟩ := hrel
        by_cases hlt : k < L.length
        case neg =>
          obtain rfl : k = L.length := by omega
          rw [if_pos rfl] at hd
          have hdn : dn = 1 := by have := hd.len; simpa using this.symm
          subst hdn
          obtain ⟨bd, od, xd, rfl, hbd, hxd, k0, k1⟩ := Des.cells hd (i := 0) (by omega)
          have hx1 : xd = 1 := by have := hxd.out; simpa using this.symm
          clear hxd
          subst hx1
          simp only [Nat.zero_mul, Nat.add_zero] at k0 k1
          obtain ⟨c0, c1, c2, c3, c4, c5, c6, c7, c8, c9, c10⟩ := ca_cells hc
          have hE : ∀ wx, (Op.equalIn 10000 28 (.agg #[.int .i64 y.rt, .int .i64 y.rs, .int .i64 y.re]) (.agg #[.int .i64 id, .int .i64 (-1), .int .i64 0])).run Try.prog wx = .ok true wx := by
            intro wx
            rw [eqRp, HY.out]
            simp [ck]
          clear hlt hk
          go_wp2_with fail
          refine (wakes_any _).mono ?_
          rintro e wz ⟨rfl, hbz⟩
          have hbE := hb.trans (hbz.mono hb.size)
          go_wp2_with fail
          go_ret
          exact ⟨rfl, hbE⟩
        case pos =>
          rw [if_neg (by omega)] at hd HY
          have hdn : dn = 0 := by have := hd.len; simpa using this.symm
          subst hdn
          obtain ⟨b, off, o, rfl, hbb, ho, hq⟩ := (HI0.out.below hb).at_ hlt
          rcases (by omega : o < 0 ∨ (0 ≤ o ∧ 1000 < o) ∨ (0 ≤ o ∧ o ≤ 1000)) with h | ⟨h, h2⟩ | ⟨h, h2⟩
          · have d1 : decide (o < 0) = true := by simpa using h
            clear h
            go_wp2_with fail
            refine (wakes_any _).mono ?_
            rintro e wz ⟨rfl, hbz⟩
            have hbE := hb.trans (hbz.mono hb.size)
            go_wp2_with fail
            go_ret
            exact ⟨rfl, hbE⟩
          · have d1 : decide (o < 0) = false := by simp; omega
            have d2 : decide (1000 < o) = true := by simpa using h2
            clear h h2
            go_wp2_with fail
            refine (wakes_any _).mono ?_
            rintro e wz ⟨rfl, hbz⟩
            have hbE := hb.trans (hbz.mono hb.size)
            go_wp2_with fail
            go_ret
            exact ⟨rfl, hbE⟩
          · have d1 : decide (o < 0) = false := by simp; omega
            have d2 : decide (1000 < o) = false := by simp; omega
            have HO1 := Lib.hid h
            have HO2 := Lib.hid h2
            obtain ⟨c0, c1, c2, c3, c4, c5, c6, c7, c8, c9, c10⟩ := ca_cells hc
            go_wp2_with fail
            refine (Offers_any y L _ (by rw [HY.out]; exact hs.more (Nat.le_of_lt hc.lt)) (by rw [HY.out]; simp only [ck]; omega)).mono ?_
            rintro e w2 ⟨Ao, no, co, rfl, hr, hbx⟩
            rw [HY.out, ck_cases id A' L.length c' k 0 L o hlt ho.out h h2] at hr
            have hno : no = 2 := by have := hr.len; simpa using this.symm
            subst hno
            clear c0 c1 c2 c3 c4 c5 c6 c7 c8 c9 c10 hq d1 d2
            replace hd := (hd.below hbx).more hbx.size
            replace hs := hs.below' hbx (Nat.le_of_lt hc.lt)
            replace hc := hc.below hbx hc.lt
            replace hb := hb.trans (hbx.mono hb.size)
            clear hbx
            go_upto_region 14 with fail
            have hq : w2.cell? ⟨b, off + k, none⟩ = some (.int .i64 o) := Ints.cell (HI0.out.below hb) ho.out
            have HBB := hb.size
            obtain ⟨bo, oo, xo, rfl, hbo, hxo, i0, i1, i2, i3, i4, i5, i6, i7, i8⟩ := Ofs.cells hr (i := 0) (by omega)
            have exo : xo = (0, o * 5 + 0, 4, id, 0, 0) := by have := hxo.out; simpa using this.symm
            clear hxo
            subst exo
            simp only [Nat.zero_mul, Nat.add_zero] at i0 i1 i2 i3 i4 i5 i6 i7 i8
            have hE : ∀ wx, (Op.equalIn 10000 38 (.agg #[.int .i8 4, .int .i64 id, .int .i64 0, .int .i64 0, .string ⟨#[]⟩, .int .i64 0]) (.agg #[.int .i8 4, .int .i64 id, .int .i64 0, .int .i64 0, .string ⟨#[]⟩, .int .i64 0])).run Try.prog wx = .ok true wx := by
              intro wx
              rw [eqLt]
              simp
            go_quiet ((go_at_call 10; exact quiet_eq (rOf5_any _ _ _ (by omega) (by omega) (by omega) (by omega))))
            clear i0 i1 i2 i3 i4 i5 i6 i7 i8 hE hq hr
            replace hd := hd.drewN nq
            replace hd : Des (w2.drewN nq) (w2.drewN nq).heap.size _ _ _ := hd
            replace hs : Ints (w2.drewN nq) g A' L.length L := hs
            replace hc : Cb (w2.drewN nq) g y := hc
            replace hb := below_drewN hb nq
            generalize w2.drewN nq = W0 at hd hs hc hb ⊢
            go_upto_region 16 with fail
            obtain ⟨c0, c1, c2, c3, c4, c5, c6, c7, c8, c9, c10⟩ := ca_cells hc
            go_wp2_with fail
            refine (Take_any y L 0 0 0 0 (0) 0 ⟨#[]⟩ _ (by rw [HY.out]; exact hs.more (Nat.le_of_lt hc.lt)) (by rw [HY.out]; simp only [ck]; omega) (fun _ => by rw [HY.out]; simp only [ck]; omega)).mono ?_
            rintro e wt ⟨D1, dn1, dc1, rfl, hd1, hbx⟩
            have HT : Hid (takeM y L 0 (0) 0 = (ck id A' L.length c' 1 k 0, false)) := by show _ = _; rw [HY.out]; exact ck_take0 id A' L.length c' k L
            have HDN : Hid (y.done = 1) := by show _ = _; rw [HY.out]; rfl
            rw [HDN.out] at hd1
            generalize takeM y L 0 (0) 0 = Y at HT hd1 ⊢
            obtain ⟨y1, dl⟩ := Y
            have HD : Hid (dl = false) := congrArg Prod.snd HT.out
            replace HY : Hid (y1 = ck id A' L.length c' 1 k 0) := congrArg Prod.fst HT.out
            rw [HD.out] at hd1
            dsimp only at hd1 ⊢
            simp only [if_true, if_false, Bool.false_eq_true] at hd1
            have hdn : dn1 = 0 := by have := hd1.len; simpa using this.symm
            subst hdn
            have hcx := hc.below hbx hc.lt
            clear HD HT HDN c0 c1 c2 c3 c4 c5 c6 c7 c8 c9 c10
            obtain ⟨c0, c1, c2, c3, c4, c5, c6, c7, c8, c9, c10⟩ := ca_cells hcx
            obtain ⟨f0, f1, f2, f3, f4, f5, f6, f7, f8, f9, f10⟩ := ca_free hcx
            go_upto_region 17 with fail
            have hdP : Des (caPut wt g y1) (caPut wt g y1).heap.size D1 _ _ := des_put2 hd1 hcx
            obtain ⟨hc2, hb2⟩ := wk_put (y := y1) hc hb hbx HG.out
            have hs2 : Ints (caPut wt g y1) g A' L.length L := ((hs.below' hbx (Nat.le_of_lt hc.lt))).below (caPut_below y1 (Below.refl g wt) (Nat.le_refl _))
            obtain ⟨W1, hW2⟩ : ∃ W2, W2 = caPut wt g y1 := ⟨_, rfl⟩
            rw [← hW2] at hc2 hb2 hs2 hdP
            unfold caPut at hW2
            rw [← hW2]
            clear c0 c1 c2 c3 c4 c5 c6 c7 c8 c9 c10 f0 f1 f2 f3 f4 f5 f6 f7 f8 f9 f10
            clear hc hb hbx hcx hs hW2 hd1
            have hc := hc2
            have hb := hb2
            have hs := hs2
            have hd := hdP
            clear hc2 hb2 hs2 hdP
            obtain ⟨c0, c1, c2, c3, c4, c5, c6, c7, c8, c9, c10⟩ := ca_cells hc
            have HWB : Hid (waitsB y1 = true) := by show _ = _; rw [HY.out]; rfl
            go_wp2_with fail
            refine (Waits_one _ _ _ _ _ (Cas.new1 W1 _ rfl y1 30) (by first | omega | (simp; done) | (simp; omega))).mono ?_
            rintro e w8 ⟨A8, n8, e8, rfl, hn8, hbx⟩
            rw [HWB.out] at hn8
            simp only [if_true] at hn8
            subst hn8
            have hbN := (Below.new_ W1 (.cells #[.int .i64 y1.id, .int .i64 y1.done, .int .i8 y1.op, .int .i64 y1.owner, .int .i64 y1.sock, .slice y1.A y1.n y1.c, .int .i8 y1.st, .int .i64 y1.i, .int .i64 y1.rt, .int .i64 y1.rs, .int .i64 y1.re] 30)).trans (hbx.mono (Below.new_ W1 (.cells #[.int .i64 y1.id, .int .i64 y1.done, .int .i8 y1.op, .int .i64 y1.owner, .int .i64 y1.sock, .slice y1.A y1.n y1.c, .int .i8 y1.st, .int .i64 y1.i, .int .i64 y1.rt, .int .i64 y1.rs, .int .i64 y1.re] 30)).size)
            replace hs := hs.below' hbN (Nat.le_of_lt hc.lt)
            replace hc := hc.below hbN hc.lt
            replace hb := hb.trans (hbN.mono hb.size)
            clear hbN hbx hd HWB c0 c1 c2 c3 c4 c5 c6 c7 c8 c9 c10
            by_cases hbad : (k : Int) = bad
            · have q0 : ((k : Int) == bad) = true := by simpa using hbad
              have HB := Lib.hid hbad
              clear hbad
              go_upto_region 20 with fail
              obtain ⟨c0, c1, c2, c3, c4, c5, c6, c7, c8, c9, c10⟩ := ca_cells hc
              go_wp2_with fail
              refine (Take_any y1 L 0 5 0 0 (-1) 240 ⟨#[]⟩ _ (by rw [HY.out]; exact hs.more (Nat.le_of_lt hc.lt)) (by rw [HY.out]; simp only [ck]; omega) (fun _ => by rw [HY.out]; simp only [ck]; omega)).mono ?_
              rintro e wt ⟨D2, dn2, dc2, rfl, hd2, hbx⟩
              have HT : Hid (takeM y1 L 0 (-1) 240 = (ck id A' L.length c' 4 k 240, false)) := by show _ = _; rw [HY.out]; exact ck_take3 id A' L.length c' k L
              have HDN : Hid (y1.done = 1) := by show _ = _; rw [HY.out]; rfl
              rw [HDN.out] at hd2
              generalize takeM y1 L 0 (-1) 240 = Y at HT hd2 ⊢
              obtain ⟨y2, dl⟩ := Y
              have HD : Hid (dl = false) := congrArg Prod.snd HT.out
              replace HY : Hid (y2 = ck id A' L.length c' 4 k 240) := congrArg Prod.fst HT.out
              rw [HD.out] at hd2
              dsimp only at hd2 ⊢
              simp only [if_true, if_false, Bool.false_eq_true] at hd2
              have hdn : dn2 = 0 := by have := hd2.len; simpa using this.symm
              subst hdn
              have hcx := hc.below hbx hc.lt
              clear HD HT HDN c0 c1 c2 c3 c4 c5 c6 c7 c8 c9 c10
              obtain ⟨c0, c1, c2, c3, c4, c5, c6, c7, c8, c9, c10⟩ := ca_cells hcx
              obtain ⟨f0, f1, f2, f3, f4, f5, f6, f7, f8, f9, f10⟩ := ca_free hcx
              go_upto_region 21 with fail
              have hdP : Des (caPut wt g y2) (caPut wt g y2).heap.size D2 _ _ := des_put2 hd2 hcx
              obtain ⟨hc2, hb2⟩ := wk_put (y := y2) hc hb hbx HG.out
              have hs2 : Ints (caPut wt g y2) g A' L.length L := ((hs.below' hbx (Nat.le_of_lt hc.lt))).below (caPut_below y2 (Below.refl g wt) (Nat.le_refl _))
              obtain ⟨W2, hW2⟩ : ∃ W2, W2 = caPut wt g y2 := ⟨_, rfl⟩
              rw [← hW2] at hc2 hb2 hs2 hdP
              unfold caPut at hW2
              rw [← hW2]
              clear c0 c1 c2 c3 c4 c5 c6 c7 c8 c9 c10 f0 f1 f2 f3 f4 f5 f6 f7 f8 f9 f10
              clear hc hb hbx hcx hs hW2 hd2
              have hc := hc2
              have hb := hb2
              have hs := hs2
              have hd := hdP
              clear hc2 hb2 hs2 hdP
              obtain ⟨c0, c1, c2, c3, c4, c5, c6, c7, c8, c9, c10⟩ := ca_cells hc
              have hE : ∀ wx, (Op.equalIn 10000 28 (.agg #[.int .i64 y2.rt, .int .i64 y2.rs, .int .i64 y2.re]) (.agg #[.int .i64 id, .int .i64 (-1), .int .i64 240])).run Try.prog wx = .ok true wx := by
                intro wx
                rw [eqRp, HY.out]
                simp [ck]
              have HOV : Hid (overB y2 = true) := by show _ = _; rw [HY.out]; rfl
              go_wp2_with fail
              refine (Over_one _ _ _ _ L _ (Cas.new1 _ _ rfl y2 30) (by first | omega | (simp; done) | (simp; omega)) (by rw [HY.out]; exact (hs.below' (Below.new_ _ _) (Nat.le_of_lt hc.lt)).more (by have := hc.lt; simp; omega)) (by rw [HY.out]; simp only [ck]; omega)).mono ?_
              rintro e w9 ⟨rfl, hbx⟩
              rw [HOV.out]
              have hbN := (Below.new_ W2 (.cells #[.int .i64 y2.id, .int .i64 y2.done, .int .i8 y2.op, .int .i64 y2.owner, .int .i64 y2.sock, .slice y2.A y2.n y2.c, .int .i8 y2.st, .int .i64 y2.i, .int .i64 y2.rt, .int .i64 y2.rs, .int .i64 y2.re] 30)).trans (hbx.mono (Below.new_ W2 (.cells #[.int .i64 y2.id, .int .i64 y2.done, .int .i8 y2.op, .int .i64 y2.owner, .int .i64 y2.sock, .slice y2.A y2.n y2.c, .int .i8 y2.st, .int .i64 y2.i, .int .i64 y2.rt, .int .i64 y2.rs, .int .i64 y2.re] 30)).size)
              replace hc := hc.below hbN hc.lt
              replace hb := hb.trans (hbN.mono hb.size)
              clear hbN hbx c0 c1 c2 c3 c4 c5 c6 c7 c8 c9 c10
              obtain ⟨c0, c1, c2, c3, c4, c5, c6, c7, c8, c9, c10⟩ := ca_cells hc
              go_wp2_with fail
              refine (wakes_any _).mono ?_
              rintro e wz ⟨rfl, hbz⟩
              have hbE := hb.trans (hbz.mono hb.size)
              go_wp2_with fail
              go_ret
              exact ⟨rfl, hbE⟩
            · have q0 : ((k : Int) == bad) = false := by simpa using hbad
              have HB := Lib.hid hbad
              clear hbad
              go_upto_region 22 with fail
              by_cases hl2 : k + 1 < L.length
              · obtain ⟨c0, c1, c2, c3, c4, c5, c6, c7, c8, c9, c10⟩ := ca_cells hc
                go_wp2_with fail
                refine (Take_any y1 L 0 5 0 0 (-1) 0 ⟨#[]⟩ _ (by rw [HY.out]; exact hs.more (Nat.le_of_lt hc.lt)) (by rw [HY.out]; simp only [ck]; omega) (fun _ => by rw [HY.out]; simp only [ck]; omega)).mono ?_
                rintro e wt ⟨D2, dn2, dc2, rfl, hd2, hbx⟩
                have HT : Hid (takeM y1 L 0 (-1) 0 = (ck id A' L.length c' 0 (k + 1) 0, false)) := by show _ = _; rw [HY.out]; exact ck_take1 id A' L.length c' k L hl2
                have HDN : Hid (y1.done = 1) := by show _ = _; rw [HY.out]; rfl
                rw [HDN.out] at hd2
                generalize takeM y1 L 0 (-1) 0 = Y at HT hd2 ⊢
                obtain ⟨y2, dl⟩ := Y
                have HD : Hid (dl = false) := congrArg Prod.snd HT.out
                replace HY : Hid (y2 = ck id A' L.length c' 0 (k + 1) 0) := congrArg Prod.fst HT.out
                rw [HD.out] at hd2
                dsimp only at hd2 ⊢
                simp only [if_true, if_false, Bool.false_eq_true] at hd2
                have hdn : dn2 = 0 := by have := hd2.len; simpa using this.symm
                subst hdn
                have hcx := hc.below hbx hc.lt
                clear HD HT HDN c0 c1 c2 c3 c4 c5 c6 c7 c8 c9 c10
                obtain ⟨c0, c1, c2, c3, c4, c5, c6, c7, c8, c9, c10⟩ := ca_cells hcx
                obtain ⟨f0, f1, f2, f3, f4, f5, f6, f7, f8, f9, f10⟩ := ca_free hcx
                go_upto_region 23 with fail
                have hdP : Des (caPut wt g y2) (caPut wt g y2).heap.size D2 _ _ := des_put2 hd2 hcx
                obtain ⟨hc2, hb2⟩ := wk_put (y := y2) hc hb hbx HG.out
                have hs2 : Ints (caPut wt g y2) g A' L.length L := ((hs.below' hbx (Nat.le_of_lt hc.lt))).below (caPut_below y2 (Below.refl g wt) (Nat.le_refl _))
                obtain ⟨W2, hW2⟩ : ∃ W2, W2 = caPut wt g y2 := ⟨_, rfl⟩
                rw [← hW2] at hc2 hb2 hs2 hdP
                unfold caPut at hW2
                rw [← hW2]
                clear c0 c1 c2 c3 c4 c5 c6 c7 c8 c9 c10 f0 f1 f2 f3 f4 f5 f6 f7 f8 f9 f10
                clear hc hb hbx hcx hs hW2 hd2
                have hc := hc2
                have hb := hb2
                have hs := hs2
                have hd := hdP
                clear hc2 hb2 hs2 hdP
                have q1 : ((k : Int) == (L.length : Int) - 1) = false := by first | (rw [beq_eq_false_iff_ne]; omega) | (rw [beq_iff_eq]; omega)
                have HOV : Hid (overB y2 = false) := by show _ = _; rw [HY.out]; rfl
                obtain ⟨c0, c1, c2, c3, c4, c5, c6, c7, c8, c9, c10⟩ := ca_cells hc
                go_wp2_with fail
                refine (Over_one _ _ _ _ L _ (Cas.new1 _ _ rfl y2 30) (by first | omega | (simp; done) | (simp; omega)) (by rw [HY.out]; exact (hs.below' (Below.new_ _ _) (Nat.le_of_lt hc.lt)).more (by have := hc.lt; simp; omega)) (by rw [HY.out]; simp only [ck]; omega)).mono ?_
                rintro e w9 ⟨rfl, hbx⟩
                rw [HOV.out]
                have hbN := (Below.new_ W2 (.cells #[.int .i64 y2.id, .int .i64 y2.done, .int .i8 y2.op, .int .i64 y2.owner, .int .i64 y2.sock, .slice y2.A y2.n y2.c, .int .i8 y2.st, .int .i64 y2.i, .int .i64 y2.rt, .int .i64 y2.rs, .int .i64 y2.re] 30)).trans (hbx.mono (Below.new_ W2 (.cells #[.int .i64 y2.id, .int .i64 y2.done, .int .i8 y2.op, .int .i64 y2.owner, .int .i64 y2.sock, .slice y2.A y2.n y2.c, .int .i8 y2.st, .int .i64 y2.i, .int .i64 y2.rt, .int .i64 y2.rs, .int .i64 y2.re] 30)).size)
                replace hd := (hd.below hbN).more hbN.size
                replace hs := hs.below' hbN (Nat.le_of_lt hc.lt)
                replace hc := hc.below hbN hc.lt
                replace hb := hb.trans (hbN.mono hb.size)
                clear hbN hbx c0 c1 c2 c3 c4 c5 c6 c7 c8 c9 c10
                have HL2 : Hid (k + 1 = L.length ↔ False) := by show _ ↔ _; simp; omega
                clear hl2
                go_wp2_with fail
                go_roundw
                case rel => exact ⟨k + 1, y2, _, _, _, by omega, by go_num, rfl, by show _ = _; rw [HY.out]; rw [if_neg (by rw [HL2.out]; simp)], hc, hs, by rw [if_neg (by rw [HL2.out]; simp)]; exact hd, hb⟩
                case measure => simp [intOf]; omega
              · obtain ⟨c0, c1, c2, c3, c4, c5, c6, c7, c8, c9, c10⟩ := ca_cells hc
                go_wp2_with fail
                refine (Take_any y1 L 0 5 0 0 (-1) 0 ⟨#[]⟩ _ (by rw [HY.out]; exact hs.more (Nat.le_of_lt hc.lt)) (by rw [HY.out]; simp only [ck]; omega) (fun _ => by rw [HY.out]; simp only [ck]; omega)).mono ?_
                rintro e wt ⟨D2, dn2, dc2, rfl, hd2, hbx⟩
                have HT : Hid (takeM y1 L 0 (-1) 0 = (ck id A' L.length c' 4 L.length 0, true)) := by show _ = _; rw [HY.out]; exact ck_take2 id A' L.length c' k L (by omega)
                have HDN : Hid (y1.done = 1) := by show _ = _; rw [HY.out]; rfl
                rw [HDN.out] at hd2
                generalize takeM y1 L 0 (-1) 0 = Y at HT hd2 ⊢
                obtain ⟨y2, dl⟩ := Y
                have HD : Hid (dl = true) := congrArg Prod.snd HT.out
                replace HY : Hid (y2 = ck id A' L.length c' 4 L.length 0) := congrArg Prod.fst HT.out
                rw [HD.out] at hd2
                dsimp only at hd2 ⊢
                simp only [if_true, if_false, Bool.false_eq_true] at hd2
                have hdn : dn2 = 1 := by have := hd2.len; simpa using this.symm
                subst hdn
                have hcx := hc.below hbx hc.lt
                clear HD HT HDN c0 c1 c2 c3 c4 c5 c6 c7 c8 c9 c10
                obtain ⟨c0, c1, c2, c3, c4, c5, c6, c7, c8, c9, c10⟩ := ca_cells hcx
                obtain ⟨f0, f1, f2, f3, f4, f5, f6, f7, f8, f9, f10⟩ := ca_free hcx
                go_upto_region 23 with fail
                have hdP : Des (caPut wt g y2) (caPut wt g y2).heap.size D2 _ _ := des_put2 hd2 hcx
                obtain ⟨hc2, hb2⟩ := wk_put (y := y2) hc hb hbx HG.out
                have hs2 : Ints (caPut wt g y2) g A' L.length L := ((hs.below' hbx (Nat.le_of_lt hc.lt))).below (caPut_below y2 (Below.refl g wt) (Nat.le_refl _))
                obtain ⟨W2, hW2⟩ : ∃ W2, W2 = caPut wt g y2 := ⟨_, rfl⟩
                rw [← hW2] at hc2 hb2 hs2 hdP
                unfold caPut at hW2
                rw [← hW2]
                clear c0 c1 c2 c3 c4 c5 c6 c7 c8 c9 c10 f0 f1 f2 f3 f4 f5 f6 f7 f8 f9 f10
                clear hc hb hbx hcx hs hW2 hd2
                have hc := hc2
                have hb := hb2
                have hs := hs2
                have hd := hdP
                clear hc2 hb2 hs2 hdP
                have q1 : ((k : Int) == (L.length : Int) - 1) = true := by first | (rw [beq_eq_false_iff_ne]; omega) | (rw [beq_iff_eq]; omega)
                have HOV : Hid (overB y2 = true) := by show _ = _; rw [HY.out]; rfl
                obtain ⟨c0, c1, c2, c3, c4, c5, c6, c7, c8, c9, c10⟩ := ca_cells hc
                go_wp2_with fail
                refine (Over_one _ _ _ _ L _ (Cas.new1 _ _ rfl y2 30) (by first | omega | (simp; done) | (simp; omega)) (by rw [HY.out]; exact (hs.below' (Below.new_ _ _) (Nat.le_of_lt hc.lt)).more (by have := hc.lt; simp; omega)) (by rw [HY.out]; simp only [ck]; omega)).mono ?_
                rintro e w9 ⟨rfl, hbx⟩
                rw [HOV.out]
                have hbN := (Below.new_ W2 (.cells #[.int .i64 y2.id, .int .i64 y2.done, .int .i8 y2.op, .int .i64 y2.owner, .int .i64 y2.sock, .slice y2.A y2.n y2.c, .int .i8 y2.st, .int .i64 y2.i, .int .i64 y2.rt, .int .i64 y2.rs, .int .i64 y2.re] 30)).trans (hbx.mono (Below.new_ W2 (.cells #[.int .i64 y2.id, .int .i64 y2.done, .int .i8 y2.op, .int .i64 y2.owner, .int .i64 y2.sock, .slice y2.A y2.n y2.c, .int .i8 y2.st, .int .i64 y2.i, .int .i64 y2.rt, .int .i64 y2.rs, .int .i64 y2.re] 30)).size)
                replace hd := (hd.below hbN).more hbN.size
                replace hs := hs.below' hbN (Nat.le_of_lt hc.lt)
                replace hc := hc.below hbN hc.lt
                replace hb := hb.trans (hbN.mono hb.size)
                clear hbN hbx c0 c1 c2 c3 c4 c5 c6 c7 c8 c9 c10
                have HL2 : Hid (k + 1 = L.length ↔ True) := by show _ ↔ _; simp; omega
                clear hl2
                go_wp2_with fail
                go_roundw
                case rel => exact ⟨k + 1, y2, _, _, _, by omega, by go_num, rfl, by show _ = _; rw [HY.out]; rw [if_pos (HL2.out.2 trivial), HL2.out.2 trivial], hc, hs, by rw [if_pos (HL2.out.2 trivial)]; exact hd, hb⟩
                case measure => simp [intOf]; omega
end Go.Proofs.Ytamfbbmkkhcnpaa
