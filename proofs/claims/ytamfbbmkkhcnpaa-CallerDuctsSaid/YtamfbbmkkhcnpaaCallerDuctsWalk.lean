/-
  What CallerDucts tells: the walk. Conditions: none.
-/
import Derived.Test.YtamfbbmkkhcnpaaCallWakes
import Derived.Test.YtamfbbmkkhcnpaaOpenCa
namespace Go.Proofs.Ytamfbbmkkhcnpaa
open Go.RowKit

theorem quiet_add_left {P : Program} {f : FuncId} {args : Array Value} {w : World} {a n : Nat} {v : Value}
    (h : Calls P f args (w.drewN (a + n)) fun e w' => e = .returned v ∧ w.drewN (a + n) = w') :
    Calls P f args (w.drewN (a + n)) fun e w'' => e = .returned v ∧ ∃ m, w'' = w.drewN (a + m) :=
  h.mono fun _ _ ⟨he, hm⟩ => ⟨he, n, hm.symm⟩
structure DuDom (x : Ca) : Prop where
  n : x.n ≤ 60
  id0 : 1 ≤ x.id
  id1 : x.id ≤ 1000
  ow0 : 1 ≤ x.owner
  ow1 : x.owner ≤ 1000
  op : ¬ x.op = 4
theorem casesL_du {x : Ca} {L : List Int} (h : DuDom x) : ∀ y ∈ casesL x L, (y.1 = 0 ∧ y.2.1 = x.owner * 5 + 0 ∧ y.2.2.2.1 = x.id) ∨ (y.1 = 1 ∧ (y.2.1 = x.done ∨ y.2.1 = x.id * 5 + 1 ∨ y.2.1 = x.id * 5 + 2)) := by
  have e0 : inboxD x L = x.owner * 5 + 0 := by unfold inboxD; rw [if_pos h.op]; exact ofD_of (by have := h.ow0; omega) (by have := h.ow1; omega) (by omega) (by omega)
  have e1 : ofD x.id 1 = x.id * 5 + 1 := ofD_of (by have := h.id0; omega) (by have := h.id1; omega) (by omega) (by omega)
  have e2 : ofD x.id 2 = x.id * 5 + 2 := ofD_of (by have := h.id0; omega) (by have := h.id1; omega) (by omega) (by omega)
  intro y hy
  unfold casesL tokL at hy
  rw [e0, e1, e2] at hy
  have ho := h.op
  split at hy
  · split at hy <;> simp at hy <;> rcases hy with rfl | rfl | rfl <;> simp
  · split at hy
    · split at hy <;> simp at hy <;> rcases hy with rfl | rfl <;> simp
    · split at hy
      · simp at hy; rcases hy with rfl | rfl <;> simp
      · split at hy
        · simp at hy; rcases hy with rfl; simp
        · simp at hy
theorem goesM_du {x : Ca} {L : List Int} {i ms me : Int} (h : DuDom x) (h0 : 0 ≤ i) (h1 : i < (casesL x L).length) : (goesM x i ms me).2 = false ∧ (goesM x i ms me).1.id = x.id ∧ (goesM x i ms me).1.op = x.op ∧ (goesM x i ms me).1.st ≠ x.st := by
  have ho := h.op
  unfold casesL at h1
  unfold goesM toldM endC
  by_cases s0 : x.st = 0
  · simp only [s0, if_true]
    split <;> simp
  · by_cases s1 : x.st = 1
    · simp only [s1]
      split <;> (try split) <;> (try split) <;> (try split) <;> simp_all <;> split <;> simp
    · by_cases s2 : x.st = 2
      · simp only [s2]; simp
      · by_cases s3 : x.st = 3
        · simp only [s3]
          split <;> (try split) <;> (try split) <;> (try split) <;> simp_all
        · simp [s0, s1, s2, s3] at h1; omega
def DuPre (x : Ca) (mt : ByteArray) (W : World) (s40 : Value) (wx : World) : Prop := ∃ b : Bool, s40 = .bool b ∧ (b = false → DuDom x) ∧ Below W.heap.size W wx
theorem letter_cells {w : World} {g : Nat} {mk mf mn ms me : Int} {mt : ByteArray} {t : TypeId} (h : w.heap[g]? = some (.cells #[.int .i8 mk, .int .i64 mf, .int .i64 mn, .int .i64 ms, .string mt, .int .i64 me] t (0, 0))) : w.cell? ⟨g, 0, none⟩ = some (.int .i8 mk) ∧ w.cell? ⟨g, 1, none⟩ = some (.int .i64 mf) ∧ w.cell? ⟨g, 2, none⟩ = some (.int .i64 mn) ∧ w.cell? ⟨g, 3, none⟩ = some (.int .i64 ms) ∧ w.cell? ⟨g, 4, none⟩ = some (.string mt) ∧ w.cell? ⟨g, 5, none⟩ = some (.int .i64 me) :=
  ⟨by simp [World.cell?, h], by simp [World.cell?, h], by simp [World.cell?, h], by simp [World.cell?, h], by simp [World.cell?, h], by simp [World.cell?, h]⟩
theorem du_mem (x : Ca) (mk mf mn ms me : Int) (mt : ByteArray) (w : World) : ∃ W : World, (w.alloc (.cells #[.int .i64 x.id, .int .i64 x.done, .int .i8 x.op, .int .i64 x.owner, .int .i64 x.sock, .slice x.A x.n x.c, .int .i8 x.st, .int .i64 x.i, .int .i64 x.rt, .int .i64 x.rs, .int .i64 x.re] 30)).alloc (.cells #[.int .i8 mk, .int .i64 mf, .int .i64 mn, .int .i64 ms, .string mt, .int .i64 me] 38) = W ∧ Cb W w.heap.size x ∧ W.heap[w.heap.size + 1]? = some (.cells #[.int .i8 mk, .int .i64 mf, .int .i64 mn, .int .i64 ms, .string mt, .int .i64 me] 38 (0, 0)) ∧ w.heap.size + 1 < W.heap.size ∧ Below w.heap.size w W := by
  refine ⟨_, rfl, ?_, ?_, (by first | omega | (simp; done) | (simp; omega)), ((Below.new_ _ _).alloc (by first | omega | (simp; done) | (simp; omega)) _)⟩
  · show _ = _
    rw [h_old _ _ _ (by first | omega | (simp; done) | (simp; omega)), h_new _ _ _ rfl]
  · rw [h_new _ _ _ (by first | omega | (simp; done) | (simp; omega))]
set_option maxRecDepth 100000 in
set_option maxHeartbeats 2000000 in
theorem CallerDucts_walk (x : Ca) (L : List Int) (i mk mf mn ms : Int) (mt : ByteArray) (me : Int) (w : World) (hs : Ints w w.heap.size x.A x.n L) :
    Calls Try.prog 4 #[.agg #[.int .i64 x.id, .int .i64 x.done, .int .i8 x.op, .int .i64 x.owner, .int .i64 x.sock, .slice x.A x.n x.c, .int .i8 x.st, .int .i64 x.i, .int .i64 x.rt, .int .i64 x.rs, .int .i64 x.re], .int .i64 i, .agg #[.int .i8 mk, .int .i64 mf, .int .i64 mn, .int .i64 ms, .string mt, .int .i64 me]] w fun e w' => e = .returned (.bool true) ∧ Below w.heap.size w w' := by
  go_enter Try.func4, Try.ntmps4
  go_upto_region 1 with fail
  obtain ⟨W, hW, hc, hm, lm, hb⟩ := du_mem x mk mf mn ms me mt w
  rw [hW]
  have lc := hc.lt
  have hs1 := (hs.below hb).more hb.size
  clear hW hs
  go_cut [0, 40] (fun _ s40 wx => DuPre x mt W s40 wx)
  case first =>
    obtain ⟨c0, c1, c2, c3, c4, c5, c6, c7, c8, c9, c10⟩ := ca_cells hc
    obtain ⟨m0, m1, m2, m3, m4, m5⟩ := letter_cells hm
    go_wp2_with fail
    have hA1 := Cas.new1 W _ rfl x 30
    have hbA := Below.new_ W (.cells #[.int .i64 x.id, .int .i64 x.done, .int .i8 x.op, .int .i64 x.owner, .int .i64 x.sock, .slice x.A x.n x.c, .int .i8 x.st, .int .i64 x.i, .int .i64 x.rt, .int .i64 x.rs, .int .i64 x.re] 30)
    have hcA := hc.below hbA lc
    have hmA := (hbA.block _ lm).trans hm
    have hsA := (hs1.below hbA).more hbA.size
    clear c0 c1 c2 c3 c4 c5 c6 c7 c8 c9 c10 m0 m1 m2 m3 m4 m5
    refine (Great_one _ _ _ _ L _ hA1 hsA (by first | omega | (simp; done) | (simp; omega))).mono ?_
    rintro e w2 ⟨gr, rfl, hgr, hb2⟩
    replace hcA := hcA.below hb2 hcA.lt
    replace hmA := (hb2.block _ (Array.getElem?_eq_some_iff.1 hmA).1).trans hmA
    replace hbA := hbA.trans (hb2.mono hbA.size)
    obtain ⟨c0, c1, c2, c3, c4, c5, c6, c7, c8, c9, c10⟩ := ca_cells hcA
    obtain ⟨m0, m1, m2, m3, m4, m5⟩ := letter_cells hmA
    have HGR := Lib.hid hgr
    clear hgr hsA hA1 hb2
    cases gr
    · by_cases hd : 1 ≤ x.id ∧ 1 ≤ x.owner ∧ x.id ≤ 1000 ∧ x.owner ≤ 1000 ∧ ¬ x.op = 4
      · obtain ⟨a1, a2, a3, a4, a5⟩ := hd
        have HD : Hid (DuDom x) := ⟨(HGR.out rfl).1, a1, a3, a2, a4, a5⟩
        have q4 : (x.op == 4) = false := by simpa using a5
        clear a5
        go_wp2_with fail
        all_goals
          go_meet
          exact ⟨_, rfl, fun _ => HD.out, hbA⟩
      · have HN := Lib.hid hd
        clear hd
        by_cases h4 : x.op = 4
        all_goals
          first
            | (have q4 : (x.op == 4) = true := by simpa using h4)
            | (have q4 : (x.op == 4) = false := by simpa using h4)
          have H4 := Lib.hid h4
          clear h4
          go_wp2_with fail
          all_goals
            go_meet
            exact ⟨_, rfl, (fun h => by first | (simp at h; done) | (exfalso; have := HN.out; have := H4.out; simp at h; omega)), hbA⟩
    · go_wp2_with fail
      go_meet
      exact ⟨true, rfl, (fun h => by simp at h), hbA⟩
  case rest =>
    obtain ⟨bb, rfl, hbb, hbc⟩ := hcut
    have hcR := hc.below hbc lc
    have hmR := (hbc.block _ lm).trans hm
    have hsR := (hs1.below hbc).more hbc.size
    have hbR := hb.trans (hbc.mono hb.size)
    clear hc hm hs1 hb hbc lm lc
    cases bb
    case true =>
      clear hbb
      go_wp2_with fail
      refine (wakes_any _).mono ?_
      rintro e w2 ⟨rfl, hb2⟩
      go_wp2_with fail
      go_ret
      exact ⟨rfl, hbR.trans (hb2.mono hbR.size)⟩
    case false =>
      have HD := Lib.hid (hbb rfl)
      clear hbb
      obtain ⟨c0, c1, c2, c3, c4, c5, c6, c7, c8, c9, c10⟩ := ca_cells hcR
      go_wp2_with fail
      refine (Offers_any x L _ hsR (by have := HD.out.n; omega)).mono ?_
      rintro e w2 ⟨A', m, c', rfl, hr, hbx⟩
      replace hcR := hcR.below hbx hcR.lt
      replace hmR := (hbx.block _ (Array.getElem?_eq_some_iff.1 hmR).1).trans hmR
      replace hsR := (hsR.below hbx).more hbx.size
      replace hbR := hbR.trans (hbx.mono hbR.size)
      have HLEN := Lib.hid hr.len
      have hm9 : m ≤ 3 := by have := casesL_le x L; have := HLEN.out; omega
      clear hbx c0 c1 c2 c3 c4 c5 c6 c7 c8 c9 c10
      obtain ⟨c0, c1, c2, c3, c4, c5, c6, c7, c8, c9, c10⟩ := ca_cells hcR
      go_wp2_with fail
      go_loopw [8] (fun s8 wr => ∃ k nq : Nat, k ≤ m ∧ s8 = .int .i64 k ∧ wr = w2.drewN nq) (fun s8 _ => m - (intOf s8).toNat)
      case atStart => exact ⟨0, 0, Nat.zero_le _, rfl, rfl⟩
      case round =>
        obtain ⟨k, nq, hk, rfl, rfl⟩ := hrel
        by_cases hlt : k < m
        · obtain ⟨b, off, y, rfl, hbb, hy, i0, i1, i2, i3, i4, i5, i6, i7, i8⟩ := Ofs.cells hr hlt
          have HY := Lib.hid (casesL_du HD.out y (List.mem_of_getElem? hy.out))
          have a1 := HD.out.id0
          have a2 := HD.out.id1
          have a3 := HD.out.ow0
          have a4 := HD.out.ow1
          clear hy
          rcases (HY.out) with ⟨h0, h1, h2⟩ | ⟨h0, h1⟩
          · have q0 : (y.1 == 0) = true := by simpa using h0
            have q1 : (y.2.1 != x.owner * 5) = false := by simp; omega
            have q2 : (y.2.2.2.1 != x.id) = false := by simpa using h2
            clear h0 h1 h2
            go_upto_region 10 with fail
            go_quiet ((go_at_call 10; exact quiet_add_left (rOf5_any _ _ _ (by omega) (by omega) (by omega) (by omega))))
            go_wp2_with fail
            go_roundw
            case rel => exact ⟨k + 1, _, by omega, by go_num, by first | rfl | (rw [World.drewN_drewN]) | (simp; done)⟩
            case measure => simp [intOf]; omega
          · have q0 : (y.1 == 0) = false := by simp; omega
            have q1 : (y.1 == 1) = true := by simpa using h0
            clear h0
            by_cases hd : y.2.1 = x.done
            · have d0 : (y.2.1 != x.done) = false := by simpa using hd
              have HD0 := Lib.hid hd
              clear hd h1
              go_upto_region 13 with fail
              go_quiet (fail)
              go_wp2_with fail
              go_roundw
              case rel => exact ⟨k + 1, _, by omega, by go_num, by first | rfl | (rw [World.drewN_drewN]) | (simp; done)⟩
              case measure => simp [intOf]; omega
            · have d0 : (y.2.1 != x.done) = true := by simpa using hd
              have h1' : y.2.1 = x.id * 5 + 1 ∨ y.2.1 = x.id * 5 + 2 := by rcases h1 with h | h | h; exact absurd h hd; exact .inl h; exact .inr h
              have HD0 := Lib.hid hd
              clear hd h1
              rcases h1' with hd1 | hd1
              · have d1 : (y.2.1 != x.id * 5 + 1) = false := by simpa using hd1
                clear hd1
                go_upto_region 13 with fail
                go_quiet ((go_at_call 10; exact quiet_add_left (rOf5_any _ _ _ (by omega) (by omega) (by omega) (by omega))))
                go_wp2_with fail
                go_roundw
                case rel => exact ⟨k + 1, _, by omega, by go_num, by first | rfl | (rw [World.drewN_drewN]) | (simp; done)⟩
                case measure => simp [intOf]; omega
              · have d1 : (y.2.1 != x.id * 5 + 1) = true := by simp; omega
                have d2 : (y.2.1 != x.id * 5 + 2) = false := by simpa using hd1
                clear hd1
                go_upto_region 13 with fail
                go_quiet ((go_at_call 10; exact quiet_add_left (rOf5_any _ _ _ (by omega) (by omega) (by omega) (by omega))))
                go_wp2_with fail
                go_roundw
                case rel => exact ⟨k + 1, _, by omega, by go_num, by first | rfl | (rw [World.drewN_drewN]) | (simp; done)⟩
                case measure => simp [intOf]; omega
        · replace hcR : Cb (w2.drewN nq) w.heap.size x := hcR
          replace hmR : (w2.drewN nq).heap[w.heap.size + 1]? = some (.cells #[.int .i8 mk, .int .i64 mf, .int .i64 mn, .int .i64 ms, .string mt, .int .i64 me] 38 (0, 0)) := hmR
          replace hsR : Ints (w2.drewN nq) (w2.drewN nq).heap.size x.A x.n L := hsR
          replace hbR := below_drewN hbR nq
          obtain rfl : k = m := by omega
          clear hlt hk hr
          go_upto_region 15 with fail
          clear c0 c1 c2 c3 c4 c5 c6 c7 c8 c9 c10
          generalize w2.drewN nq = w3 at hcR hmR hsR hbR ⊢
          obtain ⟨c0, c1, c2, c3, c4, c5, c6, c7, c8, c9, c10⟩ := ca_cells hcR
          obtain ⟨m0, m1, m2, m3, m4, m5⟩ := letter_cells hmR
          have hop := HD.out.op
          have hnn := HD.out.n
          go_wp2_with fail
          refine (Take_any x L i mk mf mn ms me mt _ hsR (by omega) (fun h => absurd h hop)).mono ?_
          rintro e w4 ⟨D, dn, dc, rfl, hd, hbx⟩
          rcases (by omega : i < 0 ∨ (0 ≤ i ∧ (k : Int) ≤ i) ∨ (0 ≤ i ∧ i < (k : Int))) with hi | ⟨hi, hj⟩ | ⟨hi, hj⟩
          · have d0 : decide (i < 0) = true := by simpa using hi
            have HC : Hid (takeM x L i ms me = (x, false)) := by show _ = _; unfold takeM; rw [if_neg (by have := HLEN.out; omega)]
            rw [HC.out] at hd ⊢
            dsimp only at hd ⊢
            have hdn := hd.len
            simp at hdn
            subst hdn
            have HI := Lib.hid hi
            clear hi HC
            replace hcR := hcR.below hbx hcR.lt
            replace hsR := (hsR.below hbx).more hbx.size
            replace hbR := hbR.trans (hbx.mono hbR.size)
            clear hd hbx hmR c0 c1 c2 c3 c4 c5 c6 c7 c8 c9 c10 m0 m1 m2 m3 m4 m5
            obtain ⟨c0, c1, c2, c3, c4, c5, c6, c7, c8, c9, c10⟩ := ca_cells hcR
            go_upto_region 16 with fail
            replace hcR := hcR.below (Below.new_ w4 (.cells #[.int .i64 x.id, .int .i64 x.done, .int .i8 x.op, .int .i64 x.owner, .int .i64 x.sock, .slice x.A x.n x.c, .int .i8 x.st, .int .i64 x.i, .int .i64 x.rt, .int .i64 x.rs, .int .i64 x.re] 30)) hcR.lt
            replace hsR := (hsR.below (Below.new_ w4 (.cells #[.int .i64 x.id, .int .i64 x.done, .int .i8 x.op, .int .i64 x.owner, .int .i64 x.sock, .slice x.A x.n x.c, .int .i8 x.st, .int .i64 x.i, .int .i64 x.rt, .int .i64 x.rs, .int .i64 x.re] 30))).more (Below.new_ w4 (.cells #[.int .i64 x.id, .int .i64 x.done, .int .i8 x.op, .int .i64 x.owner, .int .i64 x.sock, .slice x.A x.n x.c, .int .i8 x.st, .int .i64 x.i, .int .i64 x.rt, .int .i64 x.rs, .int .i64 x.re] 30)).size
            replace hbR := hbR.alloc hbR.size (.cells #[.int .i64 x.id, .int .i64 x.done, .int .i8 x.op, .int .i64 x.owner, .int .i64 x.sock, .slice x.A x.n x.c, .int .i8 x.st, .int .i64 x.i, .int .i64 x.rt, .int .i64 x.rs, .int .i64 x.re] 30)
            have hcN := Cb.new_ w4 x
            clear c0 c1 c2 c3 c4 c5 c6 c7 c8 c9 c10
            generalize w4.heap.size = g9 at hcN ⊢
            generalize w4.alloc (.cells #[.int .i64 x.id, .int .i64 x.done, .int .i8 x.op, .int .i64 x.owner, .int .i64 x.sock, .slice x.A x.n x.c, .int .i8 x.st, .int .i64 x.i, .int .i64 x.rt, .int .i64 x.rs, .int .i64 x.re] 30) = w5 at hcR hsR hbR hcN ⊢
            obtain ⟨c0, c1, c2, c3, c4, c5, c6, c7, c8, c9, c10⟩ := ca_cells hcR
            obtain ⟨d0, d1, d2, d3, d4, d5, d6, d7, d8, d9, d10⟩ := ca_cells hcN
            go_wp2_with fail
            refine (Same_self x L _ hsR (by omega)).mono ?_
            rintro e w6 ⟨rfl, hbx⟩
            replace hbR := hbR.trans (hbx.mono hbR.size)
            clear c0 c1 c2 c3 c4 c5 c6 c7 c8 c9 c10 d0 d1 d2 d3 d4 d5 d6 d7 d8 d9 d10
            go_wp2_with fail
            refine (wakes_any _).mono ?_
            rintro e w7 ⟨rfl, hbx2⟩
            replace hbR := hbR.trans (hbx2.mono hbR.size)
            go_wp2_with fail
            go_ret
            exact ⟨rfl, hbR⟩
          · have d0 : decide (i < 0) = false := by simp; omega
            have d1 : decide ((k : Int) ≤ i) = true := by simpa using hj
            have HC : Hid (takeM x L i ms me = (x, false)) := by show _ = _; unfold takeM; rw [if_neg (by have := HLEN.out; omega)]
            rw [HC.out] at hd ⊢
            dsimp only at hd ⊢
            have hdn := hd.len
            simp at hdn
            subst hdn
            have HI := Lib.hid hi
            have HJ := Lib.hid hj
            clear hi hj HC
            replace hcR := hcR.below hbx hcR.lt
            replace hsR := (hsR.below hbx).more hbx.size
            replace hbR := hbR.trans (hbx.mono hbR.size)
            clear hd hbx hmR c0 c1 c2 c3 c4 c5 c6 c7 c8 c9 c10 m0 m1 m2 m3 m4 m5
            obtain ⟨c0, c1, c2, c3, c4, c5, c6, c7, c8, c9, c10⟩ := ca_cells hcR
            go_upto_region 16 with fail
            replace hcR := hcR.below (Below.new_ w4 (.cells #[.int .i64 x.id, .int .i64 x.done, .int .i8 x.op, .int .i64 x.owner, .int .i64 x.sock, .slice x.A x.n x.c, .int .i8 x.st, .int .i64 x.i, .int .i64 x.rt, .int .i64 x.rs, .int .i64 x.re] 30)) hcR.lt
            replace hsR := (hsR.below (Below.new_ w4 (.cells #[.int .i64 x.id, .int .i64 x.done, .int .i8 x.op, .int .i64 x.owner, .int .i64 x.sock, .slice x.A x.n x.c, .int .i8 x.st, .int .i64 x.i, .int .i64 x.rt, .int .i64 x.rs, .int .i64 x.re] 30))).more (Below.new_ w4 (.cells #[.int .i64 x.id, .int .i64 x.done, .int .i8 x.op, .int .i64 x.owner, .int .i64 x.sock, .slice x.A x.n x.c, .int .i8 x.st, .int .i64 x.i, .int .i64 x.rt, .int .i64 x.rs, .int .i64 x.re] 30)).size
            replace hbR := hbR.alloc hbR.size (.cells #[.int .i64 x.id, .int .i64 x.done, .int .i8 x.op, .int .i64 x.owner, .int .i64 x.sock, .slice x.A x.n x.c, .int .i8 x.st, .int .i64 x.i, .int .i64 x.rt, .int .i64 x.rs, .int .i64 x.re] 30)
            have hcN := Cb.new_ w4 x
            clear c0 c1 c2 c3 c4 c5 c6 c7 c8 c9 c10
            generalize w4.heap.size = g9 at hcN ⊢
            generalize w4.alloc (.cells #[.int .i64 x.id, .int .i64 x.done, .int .i8 x.op, .int .i64 x.owner, .int .i64 x.sock, .slice x.A x.n x.c, .int .i8 x.st, .int .i64 x.i, .int .i64 x.rt, .int .i64 x.rs, .int .i64 x.re] 30) = w5 at hcR hsR hbR hcN ⊢
            obtain ⟨c0, c1, c2, c3, c4, c5, c6, c7, c8, c9, c10⟩ := ca_cells hcR
            obtain ⟨d0, d1, d2, d3, d4, d5, d6, d7, d8, d9, d10⟩ := ca_cells hcN
            go_wp2_with fail
            refine (Same_self x L _ hsR (by omega)).mono ?_
            rintro e w6 ⟨rfl, hbx⟩
            replace hbR := hbR.trans (hbx.mono hbR.size)
            clear c0 c1 c2 c3 c4 c5 c6 c7 c8 c9 c10 d0 d1 d2 d3 d4 d5 d6 d7 d8 d9 d10
            go_wp2_with fail
            refine (wakes_any _).mono ?_
            rintro e w7 ⟨rfl, hbx2⟩
            replace hbR := hbR.trans (hbx2.mono hbR.size)
            go_wp2_with fail
            go_ret
            exact ⟨rfl, hbR⟩
          · have d0 : decide (i < 0) = false := by simp; omega
            have d1 : decide ((k : Int) ≤ i) = false := by simp; omega
            have HC : Hid (takeM x L i ms me = goesM x i ms me) := by show _ = _; unfold takeM; rw [if_pos (by have := HLEN.out; omega)]
            have HG := Lib.hid (goesM_du (L := L) (ms := ms) (me := me) HD.out hi (by have := HLEN.out; omega))
            rw [HC.out] at hd ⊢
            generalize goesM x i ms me = Y at HG hd ⊢
            obtain ⟨y, dl⟩ := Y
            obtain ⟨g1, g2, g3, g4⟩ := HG.out
            dsimp only at g1 g2 g3 g4 hd ⊢
            rw [g1] at hd
            have hdn := hd.len
            simp at hdn
            subst hdn
            have q1 : (y.id == x.id) = true := by simpa using g2
            have q2 : (y.op == x.op) = true := by simpa using g3
            have q3 : (y.st != x.st) = true := by simpa using g4
            have hm0 : 0 < k := by omega
            have q5 : ((k : Int) == 0) = false := by rw [beq_eq_false_iff_ne]; omega
            have HOV : Hid (overB x = false) := by show _ = _; have h1 := casesL_len x L; rw [HLEN.out, decide_eq_true hm0] at h1; simpa using h1.symm
            replace hcR := hcR.below hbx hcR.lt
            replace hsR := (hsR.below hbx).more hbx.size
            replace hbR := hbR.trans (hbx.mono hbR.size)
            have HI := Lib.hid hi
            have HJ := Lib.hid hj
            clear hd hbx hmR g1 g2 g3 g4 hi hj hm0 HC HG c0 c1 c2 c3 c4 c5 c6 c7 c8 c9 c10 m0 m1 m2 m3 m4 m5
            obtain ⟨c0, c1, c2, c3, c4, c5, c6, c7, c8, c9, c10⟩ := ca_cells hcR
            go_upto_region 16 with fail
            replace hcR := hcR.below (Below.new_ w4 (.cells #[.int .i64 y.id, .int .i64 y.done, .int .i8 y.op, .int .i64 y.owner, .int .i64 y.sock, .slice y.A y.n y.c, .int .i8 y.st, .int .i64 y.i, .int .i64 y.rt, .int .i64 y.rs, .int .i64 y.re] 30)) hcR.lt
            replace hsR := (hsR.below (Below.new_ w4 (.cells #[.int .i64 y.id, .int .i64 y.done, .int .i8 y.op, .int .i64 y.owner, .int .i64 y.sock, .slice y.A y.n y.c, .int .i8 y.st, .int .i64 y.i, .int .i64 y.rt, .int .i64 y.rs, .int .i64 y.re] 30))).more (Below.new_ w4 (.cells #[.int .i64 y.id, .int .i64 y.done, .int .i8 y.op, .int .i64 y.owner, .int .i64 y.sock, .slice y.A y.n y.c, .int .i8 y.st, .int .i64 y.i, .int .i64 y.rt, .int .i64 y.rs, .int .i64 y.re] 30)).size
            replace hbR := hbR.alloc hbR.size (.cells #[.int .i64 y.id, .int .i64 y.done, .int .i8 y.op, .int .i64 y.owner, .int .i64 y.sock, .slice y.A y.n y.c, .int .i8 y.st, .int .i64 y.i, .int .i64 y.rt, .int .i64 y.rs, .int .i64 y.re] 30)
            have hcN := Cb.new_ w4 y
            clear c0 c1 c2 c3 c4 c5 c6 c7 c8 c9 c10
            generalize w4.heap.size = g9 at hcN ⊢
            generalize w4.alloc (.cells #[.int .i64 y.id, .int .i64 y.done, .int .i8 y.op, .int .i64 y.owner, .int .i64 y.sock, .slice y.A y.n y.c, .int .i8 y.st, .int .i64 y.i, .int .i64 y.rt, .int .i64 y.rs, .int .i64 y.re] 30) = w5 at hcR hsR hbR hcN ⊢
            obtain ⟨c0, c1, c2, c3, c4, c5, c6, c7, c8, c9, c10⟩ := ca_cells hcR
            obtain ⟨d0, d1, d2, d3, d4, d5, d6, d7, d8, d9, d10⟩ := ca_cells hcN
            go_wp2_with fail
            have hA1 := Cas.new1 w5 _ rfl x 30
            have hsA := (hsR.below (Below.new_ w5 (.cells #[.int .i64 x.id, .int .i64 x.done, .int .i8 x.op, .int .i64 x.owner, .int .i64 x.sock, .slice x.A x.n x.c, .int .i8 x.st, .int .i64 x.i, .int .i64 x.rt, .int .i64 x.rs, .int .i64 x.re] 30))).more (Below.new_ w5 (.cells #[.int .i64 x.id, .int .i64 x.done, .int .i8 x.op, .int .i64 x.owner, .int .i64 x.sock, .slice x.A x.n x.c, .int .i8 x.st, .int .i64 x.i, .int .i64 x.rt, .int .i64 x.rs, .int .i64 x.re] 30)).size
            replace hbR := hbR.alloc hbR.size (.cells #[.int .i64 x.id, .int .i64 x.done, .int .i8 x.op, .int .i64 x.owner, .int .i64 x.sock, .slice x.A x.n x.c, .int .i8 x.st, .int .i64 x.i, .int .i64 x.rt, .int .i64 x.rs, .int .i64 x.re] 30)
            refine (Over_one _ _ _ _ L _ hA1 (by first | omega | (simp; done) | (simp; omega)) hsA (by omega)).mono ?_
            rintro e w6 ⟨rfl, hbx⟩
            rw [HOV.out]
            replace hbR := hbR.trans (hbx.mono hbR.size)
            clear c0 c1 c2 c3 c4 c5 c6 c7 c8 c9 c10 d0 d1 d2 d3 d4 d5 d6 d7 d8 d9 d10 hA1 hsA hbx
            go_wp2_with fail
            refine (wakes_any _).mono ?_
            rintro e w7 ⟨rfl, hbx2⟩
            replace hbR := hbR.trans (hbx2.mono hbR.size)
            go_wp2_with fail
            go_ret
            exact ⟨rfl, hbR⟩
end Go.Proofs.Ytamfbbmkkhcnpaa
