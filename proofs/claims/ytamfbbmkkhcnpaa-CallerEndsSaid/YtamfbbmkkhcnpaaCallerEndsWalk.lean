/-
  What CallerEnds tells: the walk. Conditions: none.
-/
import Derived.Test.YtamfbbmkkhcnpaaCallerEndsSwitch
namespace Go.Proofs.Ytamfbbmkkhcnpaa
open Go.RowKit

set_option maxRecDepth 100000 in
set_option maxHeartbeats 4000000 in
theorem CallerEnds_walk (id owner : Int) (A : Option Addr) (n c : Nat) (l : List Pk) (w : World) (hl : Pks w w.heap.size A n l) (_ : ∀ x ∈ l, True) (hn0 : n ≤ 9223372036854775807) (_ : n ≤ c) :
    Calls Try.prog 3 #[.int .i64 id, .int .i64 owner, .slice A n c] w fun e w' => e = .returned (.bool true) ∧ Below w.heap.size w w' := by
  have hb : Below w.heap.size w w := Below.refl _ _
  go_enter Try.func3, Try.ntmps3
  go_upto_region 1 with fail
  go_cut [38] (fun s38 wx => EnPre id owner n w s38 wx)
  case first =>
    by_cases hd : 6 ≤ n ∧ n ≤ 20 ∧ 1 ≤ id ∧ 1 ≤ owner ∧ id ≤ 1000 ∧ owner ≤ 1000
    · have HD := Lib.hid hd
      obtain ⟨a1, a2, a3, a4, a5, a6⟩ := hd
      go_wp2_with fail
      all_goals
        go_meet
        case rel => exact ⟨_, rfl, (fun _ => HD.out), rfl⟩
    · have HD := Lib.hid hd
      clear hd
      go_wp2_with fail
      all_goals
        go_meet
        case rel => exact ⟨_, rfl, (fun h => by first | (simp at h; done) | (exfalso; have := HD.out; simp at h; omega)), rfl⟩
  case rest =>
    obtain ⟨bb, rfl, hbb, rfl⟩ := hcut
    cases bb
    case true =>
      clear hbb
      go_wp2_with fail
      refine (wakes_any _).mono ?_
      rintro e wz ⟨rfl, hbz⟩
      have hbE := hb.trans (hbz.mono hb.size)
      go_wp2_with fail
      go_ret
      exact ⟨rfl, hbE⟩
    case false =>
      obtain ⟨a1, a2, a3, a4, a5, a6⟩ := hbb.out rfl
      clear hbb
      go_wp2_with fail
      refine (Get_any id 1 owner _).mono ?_
      rintro e w1 ⟨rfl, hb1⟩
      generalize hy0 : beginC id 1 0 owner = y0
      have HY : Hid (y0 = gk id owner 0 id (-1) 0) := hy0.symm
      clear hy0
      have HG : Hid (w.heap.size ≤ w1.heap.size) := hb1.size
      clear hb
      go_wp2_with fail
      have hc := Cb.new_ w1 y0
      have hb := hb1.alloc hb1.size (.cells #[.int .i64 y0.id, .int .i64 y0.done, .int .i8 y0.op, .int .i64 y0.owner, .int .i64 y0.sock, .slice y0.A y0.n y0.c, .int .i8 y0.st, .int .i64 y0.i, .int .i64 y0.rt, .int .i64 y0.rs, .int .i64 y0.re] 30)
      have hN := Below.new_ (w1.alloc (.cells #[.int .i64 y0.id, .int .i64 y0.done, .int .i8 y0.op, .int .i64 y0.owner, .int .i64 y0.sock, .slice y0.A y0.n y0.c, .int .i8 y0.st, .int .i64 y0.i, .int .i64 y0.rt, .int .i64 y0.rs, .int .i64 y0.re] 30)) (.cells #[.int .i64 0, .int .i64 0, .int .i64 0] 28)
      have hh : WRow ((w1.alloc (.cells #[.int .i64 y0.id, .int .i64 y0.done, .int .i8 y0.op, .int .i64 y0.owner, .int .i64 y0.sock, .slice y0.A y0.n y0.c, .int .i8 y0.st, .int .i64 y0.i, .int .i64 y0.rt, .int .i64 y0.rs, .int .i64 y0.re] 30)).alloc (.cells #[.int .i64 0, .int .i64 0, .int .i64 0] 28)) (w1.heap.size + 1) 0 0 0 := h_new _ _ _ (by first | omega | (simp; done) | (simp; omega))
      replace hc := hc.below hN hc.lt
      replace hb := hb.trans (hN.mono hb.size)
      have HGH : Hid (w1.heap.size ≠ w1.heap.size + 1) := by show _ ≠ _; omega
      have HH : Hid (w.heap.size ≤ w1.heap.size + 1) := by show _ ≤ _; have := HG.out; omega
      clear hN hb1
      generalize ((w1.alloc (.cells #[.int .i64 y0.id, .int .i64 y0.done, .int .i8 y0.op, .int .i64 y0.owner, .int .i64 y0.sock, .slice y0.A y0.n y0.c, .int .i8 y0.st, .int .i64 y0.i, .int .i64 y0.rt, .int .i64 y0.rs, .int .i64 y0.re] 30)).alloc (.cells #[.int .i64 0, .int .i64 0, .int .i64 0] 28)) = W at hc hh hb ⊢
      generalize w1.heap.size + 1 = h at HH HGH hh ⊢
      generalize w1.heap.size = g at HG HGH hc ⊢
      go_loopw [8, 9, 10, 12] (fun s8 s9 s10 s12 wr => EnRel id owner w g h s8 s9 s10 s12 wr) (fun _ _ _ s12 _ => 5 - (intOf s12).toNat)
      case atStart => exact ⟨0, y0, false, false, false, 0, 0, 0, rfl, rfl, rfl, rfl, .inl ⟨rfl, rfl, rfl, rfl, HY.out⟩, hc, hh, hb⟩
      case round =>
        clear hc hh hb HY
        obtain ⟨i, y, asked, quit, replied, wt, ws, we, rfl, rfl, rfl, rfl, hst, hc, hh, hb⟩ := hrel
        rcases hst.out.part with ⟨hi, hy⟩ | ⟨hi, hov, hl1, hl3, hyn, hyo, hyd⟩
        · have hE : ∀ wx, (Op.equalIn 10000 28 (.agg #[.int .i64 y.rt, .int .i64 y.rs, .int .i64 y.re]) (.agg #[.int .i64 wt, .int .i64 ws, .int .i64 we])).run Try.prog wx = .ok true wx := by
            intro wx
            rw [eqRp, hy]
            simp [gk]
          have HY := Lib.hid hy
          have HOV : Hid (overB y = true) := by show _ = _; rw [HY.out]; rfl
          have d1 : decide (i < n) = true := by simp; omega
          clear hy hi
          obtain ⟨c0, c1, c2, c3, c4, c5, c6, c7, c8, c9, c10⟩ := ca_cells hc
          go_wp2_with fail
          refine (Over_one _ _ _ _ [] _ (Cas.new1 _ _ rfl y 30) (by first | omega | (simp; done) | (simp; omega)) (nilI (by rw [HY.out]; rfl) _ _) (by rw [HY.out]; simp [gk])).mono ?_
          rintro e w9 ⟨rfl, hbx⟩
          rw [HOV.out]
          have hbN := (Below.new_ _ _).trans (hbx.mono (Below.new_ _ _).size)
          replace hc := hc.below hbN hc.lt
          replace hh := hh.below hbN hh.lt
          replace hb := hb.trans (hbN.mono hb.size)
          clear hbN hbx c0 c1 c2 c3 c4 c5 c6 c7 c8 c9 c10
          obtain ⟨c0, c1, c2, c3, c4, c5, c6, c7, c8, c9, c10⟩ := ca_cells hc
          obtain ⟨u0, u1, u2, u3, u4, u5⟩ := hh.cells
          go_wp2_with fail
          refine (Over_one _ _ _ _ [] _ (Cas.new1 _ _ rfl y 30) (by first | omega | (simp; done) | (simp; omega)) (nilI (by rw [HY.out]; rfl) _ _) (by rw [HY.out]; simp [gk])).mono ?_
          rintro e w9 ⟨rfl, hbx⟩
          rw [HOV.out]
          clear u0 u1 u2 u3 u4 u5
          have hbN := (Below.new_ _ _).trans (hbx.mono (Below.new_ _ _).size)
          replace hc := hc.below hbN hc.lt
          replace hh := hh.below hbN hh.lt
          replace hb := hb.trans (hbN.mono hb.size)
          clear hbN hbx c0 c1 c2 c3 c4 c5 c6 c7 c8 c9 c10
          obtain ⟨c0, c1, c2, c3, c4, c5, c6, c7, c8, c9, c10⟩ := ca_cells hc
          obtain ⟨u0, u1, u2, u3, u4, u5⟩ := hh.cells
          go_wp2_with fail
          refine (wakes_any _).mono ?_
          rintro e wz ⟨rfl, hbz⟩
          have hbE := hb.trans (hbz.mono hb.size)
          go_wp2_with fail
          go_ret
          exact ⟨rfl, hbE⟩
        · have HOV : Hid (overB y = false) := hov
          have HYN : Hid (y.n = 0 ∧ y.op = 0 ∧ y.done = 1) := ⟨hyn, hyo, hyd⟩
          have HI := Lib.hid hi
          have d1 : decide (i < n) = true := by simp; omega
          clear hov hyn hyo hyd
          obtain ⟨c0, c1, c2, c3, c4, c5, c6, c7, c8, c9, c10⟩ := ca_cells hc
          go_wp2_with fail
          refine (Over_one _ _ _ _ [] _ (Cas.new1 _ _ rfl y 30) (by first | omega | (simp; done) | (simp; omega)) (nilI HYN.out.1 _ _) (by have := HYN.out.1; omega)).mono ?_
          rintro e w9 ⟨rfl, hbx⟩
          rw [HOV.out]
          have hbN := (Below.new_ _ _).trans (hbx.mono (Below.new_ _ _).size)
          replace hc := hc.below hbN hc.lt
          replace hh := hh.below hbN hh.lt
          replace hb := hb.trans (hbN.mono hb.size)
          clear hbN hbx c0 c1 c2 c3 c4 c5 c6 c7 c8 c9 c10
          obtain ⟨c0, c1, c2, c3, c4, c5, c6, c7, c8, c9, c10⟩ := ca_cells hc
          go_wp2_with fail
          refine (Offers_any y [] _ (nilI HYN.out.1 _ _) (by have := HYN.out.1; omega)).mono ?_
          rintro e w2 ⟨Ao, m, co, rfl, ho, hbx⟩
          have hlm := ho.len
          rw [hlm] at hl1 hl3
          have HLM := Lib.hid hlm
          clear hlm
          replace hc := hc.below hbx hc.lt
          replace hh := hh.below hbx hh.lt
          replace hb := hb.trans (hbx.mono hb.size)
          clear hbx c0 c1 c2 c3 c4 c5 c6 c7 c8 c9 c10
          have q0 : ((m : Int) == 0) = false := by rw [beq_eq_false_iff_ne]; omega
          have q5 : decide (5 ≤ (i : Int)) = false := by simp; omega
          go_upto_region 12 with fail
          go_cut [14] (fun s14 wx => ∃ z : Int, s14 = .int .i64 z ∧ Hid (0 ≤ z ∧ z < m) ∧ w2 = wx)
          case first =>
            obtain ⟨b, off, x, rfl, hbb, k0, k1, k2⟩ := Pks.cells (hl.below hb) (show i < n by omega)
            have hbs := hb.size
            have hm0 : ¬ (m : Int) = 0 := by omega
            obtain ⟨r0, r1, r2, r3⟩ := rem_ok x.1 m hl1
            go_wp2_with fail
            go_meet
            case rel => exact ⟨_, rfl, ⟨Int.emod_nonneg _ (by omega), Int.emod_lt_of_pos _ (by omega)⟩, rfl⟩
          case rest =>
            obtain ⟨z, rfl, hz, rfl⟩ := hcut
            obtain ⟨k, rfl⟩ : ∃ k : Nat, z = (k : Int) := ⟨z.toNat, by have := hz.out; omega⟩
            have hkm : k < m := by have := hz.out; omega
            obtain ⟨bo, oo, x, rfl, hbo, hx, i0, i1, i2, i3, i4, i5, i6, i7, i8⟩ := Ofs.cells ho hkm
            have HW := Lib.hid (hst.out.way a3 a5 a4 a6 hx.out)
            clear hx hz hl1 hl3 q0 q5
            go_upto_block 2 with fail
            have hN := (Below.new_ w2 (.cells #[.int .i8 0, .int .i64 0, .int .i64 0, .int .i64 0, .string ⟨#[]⟩, .int .i64 0] 38)).alloc (Nat.le_of_lt (by simp)) (.cells #[.int .i8 x.1, .int .i64 x.2.1, .int .i8 x.2.2.1, .int .i64 x.2.2.2.1, .int .i64 x.2.2.2.2.1, .int .i64 x.2.2.2.2.2, .string ⟨#[]⟩, .int .i64 0, .int .i64 0] 40)
            have hp : LRow ((w2.alloc (.cells #[.int .i8 0, .int .i64 0, .int .i64 0, .int .i64 0, .string ⟨#[]⟩, .int .i64 0] 38)).alloc (.cells #[.int .i8 x.1, .int .i64 x.2.1, .int .i8 x.2.2.1, .int .i64 x.2.2.2.1, .int .i64 x.2.2.2.2.1, .int .i64 x.2.2.2.2.2, .string ⟨#[]⟩, .int .i64 0, .int .i64 0] 40)) w2.heap.size 0 0 0 := (h_old _ _ _ (by first | omega | (simp; done) | (simp; omega))).trans (h_new _ _ _ rfl)
            have hq : ((w2.alloc (.cells #[.int .i8 0, .int .i64 0, .int .i64 0, .int .i64 0, .string ⟨#[]⟩, .int .i64 0] 38)).alloc (.cells #[.int .i8 x.1, .int .i64 x.2.1, .int .i8 x.2.2.1, .int .i64 x.2.2.2.1, .int .i64 x.2.2.2.2.1, .int .i64 x.2.2.2.2.2, .string ⟨#[]⟩, .int .i64 0, .int .i64 0] 40)).heap[w2.heap.size + 1]? = some (.cells #[.int .i8 x.1, .int .i64 x.2.1, .int .i8 x.2.2.1, .int .i64 x.2.2.2.1, .int .i64 x.2.2.2.2.1, .int .i64 x.2.2.2.2.2, .string ⟨#[]⟩, .int .i64 0, .int .i64 0] 40 (0, 0)) := h_new _ _ _ (by first | omega | (simp; done) | (simp; omega))
            have hgp : g < w2.heap.size := hc.lt
            have hhp : h < w2.heap.size := hh.lt
            replace hc := hc.below hN hgp
            replace hh := hh.below hN hhp
            replace hl2 := (hl.below hb).below' hN hb.size
            replace hb := hb.trans (hN.mono hb.size)
            clear hN i0 i1 i2 i3 i4 i5 i6 i7 i8 ho hbo
            generalize ((w2.alloc (.cells #[.int .i8 0, .int .i64 0, .int .i64 0, .int .i64 0, .string ⟨#[]⟩, .int .i64 0] 38)).alloc (.cells #[.int .i8 x.1, .int .i64 x.2.1, .int .i8 x.2.2.1, .int .i64 x.2.2.2.1, .int .i64 x.2.2.2.2.1, .int .i64 x.2.2.2.2.2, .string ⟨#[]⟩, .int .i64 0, .int .i64 0] 40)) = W2 at hc hh hb hp hq hl2 ⊢
            generalize w2.heap.size = p at hp hq hgp hhp ⊢
            go_cut [8, 9, 10] (fun s8 s9 s10 wx => EnMid id owner w g h p i k y s8 s9 s10 wx)
            case first =>
              refine ends_switch id owner A n c l w W2 g h p i k y x asked quit replied wt ws we _ _ _ _ _ _ _ _ _ _ _ _ _ _ _ _ _ _ _ _ _ _ _ _ _ _ _ _ _ _ _ _ _ _ _ _ _ _ _ _ _ _ _ _ _ _ _ _ _ _ _ _ _ _ _ _ _ _ _ _ _ _ _ _ _ _ _ _ _ _ _ _ _ _ _ _ _ _ _ _ _ _ _ _ _ _ _ _ _ _ _ _ _ _ _ _ _ _ _ _ _ _ _ _ _ _ _ _ _ _ _ _ _ _ _ _ _ _ _ _ _ _ _ _ _ _ _ _ _ _ _ _ _ _ _ _ _ _ _ _ _ _ _ _ _ _ _ _ _ _ _ _ _ _ _ _ _ _ _ _ _ _ _ _ _ _ _ _ _ _ _ _ _ _ _ _ _ _ _ _ _ _ _ _ _ _ _ _ _ _ _ _ _ _ _ a3 a5 (by have := HI.out; omega) a2 HG HH HGH hgp hhp HW hc hh hp hq hl2 hb ?_
              intro u8 u9 u10 u83 u84 u85 u86 u87 u88 u89 u90 u91 u92 u93 u94 u95 u96 u97 u98 u99 u100 u101 u102 u103 u104 u105 u106 u107 u108 u109 u110 u111 u112 u113 u114 u115 u116 u117 u118 u119 u120 u121 u122 u123 u124 u125 u126 u127 u128 u129 u130 u131 u132 u133 u134 u135 u136 u137 u138 u139 u140 u141 u142 u143 u144 u145 u146 u147 u148 u149 u150 u151 u152 u153 u154 u155 u156 u157 u158 u159 u160 u161 u162 u163 u164 u165 u166 u167 u168 u169 u170 u171 u172 u173 u174 u175 u176 u177 u178 u179 wx hEn
              refine (by assumption : ∀ a' w', Met _ a' w' → _) _ _ ?_
              go_meet
              case rel => exact hEn
            case rest =>
              clear hc hh hb hp hq hl2 hst HW
              obtain ⟨asked, quit, replied, wt, ws, we, lk, ls, le, y', rfl, rfl, rfl, hT, hc, hh, hp, hb⟩ := hcut
              obtain ⟨c0, c1, c2, c3, c4, c5, c6, c7, c8, c9, c10⟩ := ca_cells hc
              obtain ⟨p0, p1, p2, p3, p4, p5⟩ := hp.cells
              go_wp2_with fail
              refine (Take_any y [] k lk 0 0 ls le ⟨#[]⟩ _ (nilI HYN.out.1 _ _) (by have := HYN.out.1; omega) (fun h => absurd h (by have := HYN.out.2.1; omega))).mono ?_
              rintro e wt2 ⟨D, dn, dc, rfl, hd, hbx⟩
              rw [hT.out.1] at hd ⊢
              dsimp only at hd ⊢
              have hdn := hd.len
              simp at hdn
              subst hdn
              have HST : Hid (EnSt id owner (i + 1) y' asked quit replied wt ws we) := hT.out.2
              have hgl := hc.lt
              have hhl := hh.lt
              have hcx := hc.below hbx hgl
              have hhx := hh.below hbx hhl
              have hbxx := hb.trans (hbx.mono hb.size)
              clear hc hh hb hd hbx hp p0 p1 p2 p3 p4 p5 c0 c1 c2 c3 c4 c5 c6 c7 c8 c9 c10
              go_upto_region 36 with fail
              have hN := Below.new_ wt2 (.cells #[.int .i64 y'.id, .int .i64 y'.done, .int .i8 y'.op, .int .i64 y'.owner, .int .i64 y'.sock, .slice y'.A y'.n y'.c, .int .i8 y'.st, .int .i64 y'.i, .int .i64 y'.rt, .int .i64 y'.rs, .int .i64 y'.re] 30)
              have hc9 := hcx.below hN hcx.lt
              have hh9 := hhx.below hN hhx.lt
              have hb9 := hbxx.trans (hN.mono hbxx.size)
              have hcN := Cb.new_ wt2 y'
              clear hN hcx hhx hbxx
              generalize wt2.alloc (.cells #[.int .i64 y'.id, .int .i64 y'.done, .int .i8 y'.op, .int .i64 y'.owner, .int .i64 y'.sock, .slice y'.A y'.n y'.c, .int .i8 y'.st, .int .i64 y'.i, .int .i64 y'.rt, .int .i64 y'.rs, .int .i64 y'.re] 30) = W7 at hc9 hh9 hb9 hcN ⊢
              generalize wt2.heap.size = g7 at hcN ⊢
              obtain ⟨c0, c1, c2, c3, c4, c5, c6, c7, c8, c9, c10⟩ := ca_cells hc9
              obtain ⟨f0, f1, f2, f3, f4, f5, f6, f7, f8, f9, f10⟩ := ca_free hc9
              obtain ⟨e0, e1, e2, e3, e4, e5, e6, e7, e8, e9, e10⟩ := ca_cells hcN
              go_wp2_with fail
              go_roundw
              case rel => exact ⟨i + 1, y', asked, quit, replied, wt, ws, we, by go_num, rfl, rfl, rfl, HST, hc9.put y', (caPut_ne _ g y' h (Ne.symm HGH.out)).trans hh9, caPut_below y' hb9 HG.out⟩
              case measure => have := HI.out; simp [intOf]; omega
end Go.Proofs.Ytamfbbmkkhcnpaa
