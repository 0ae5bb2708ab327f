/-
  The statement NamerApart, walked. Conditions: none.
-/
import Derived.Test.YtfahmfaakjnpcaaNamerApartPlain
import Derived.Test.YtfahmfaakjnpcaaNmWakes2
namespace Go.Proofs.Ytfahmfaakjnpcaa
set_option linter.unusedVariables false
set_option linter.unusedSimpArgs false
open Go.RowKit Go.Shelf

/-- Behind the statement's first test. -/
def ApPre (w : World) (a b : ByteArray) (one two : Int) (m : Lt) (s : Value) (wx : World) : Prop :=
  ∃ g : Bool, s = .bool g ∧ (g = false → a ≠ b ∧ 1 ≤ one ∧ one ≤ 1000 ∧ 1 ≤ two ∧ two ≤ 1000) ∧ LtAt wx w.heap.size m ∧ Below w.heap.size w wx
theorem ApPre.yes {w wx : World} {a b : ByteArray} {one two : Int} {m : Lt} (h1 : LtAt wx w.heap.size m) (h2 : Below w.heap.size w wx) : ApPre w a b one two m (.bool true) wx := ⟨true, rfl, (by intro h; cases h), h1, h2⟩
set_option maxRecDepth 100000 in
set_option maxHeartbeats 4000000 in
theorem NamerApart_walk (a b : ByteArray) (one two : Int) (m : Lt) (clock : Int) (w : World) :
    Calls Try.prog 4 #[.string a, .string b, .int .i64 one, .int .i64 two, .agg #[.int .i8 m.k, .int .i64 m.f, .int .i64 m.n, .int .i64 m.s, .string m.t, .int .i64 m.e], .int .i64 clock] w fun e w' => e = .returned (.bool true) ∧ Below w.heap.size w w' := by
  have hM := LtAt.new w m
  have hB := Below.new_ w (.cells #[.int .i8 m.k, .int .i64 m.f, .int .i64 m.n, .int .i64 m.s, .string m.t, .int .i64 m.e] 40)
  go_enter Try.func4, Try.ntmps4
  go_upto_region 1 with fail
  generalize (w.alloc (.cells #[.int .i8 m.k, .int .i64 m.f, .int .i64 m.n, .int .i64 m.s, .string m.t, .int .i64 m.e] 40)) = W at hM hB ⊢
  go_cut [50] (fun s50 wx => ApPre w a b one two m s50 wx)
  case first =>
    by_cases hab : a = b
    · have q1 : (a.toList == b.toList) = true := by rw [hab]; simp
      clear hab
      go_wp2_with fail
      go_meet
      exact ApPre.yes hM hB
    · have q1 : (a.toList == b.toList) = false := by
        rw [beq_eq_false_iff_ne]
        intro h
        exact hab ((sEq_iff a b).1 (by unfold sEq; simp [h]))
      have HAB := Lib.hid hab
      clear hab
      cases d2 : decide ((400 : Int) < (a.size : Int))
      case true =>
        go_wp2_with fail
        go_meet
        exact ApPre.yes hM hB
      case false =>
        cases d3 : decide ((400 : Int) < (b.size : Int))
        case true =>
          go_wp2_with fail
          go_meet
          exact ApPre.yes hM hB
        case false =>
          cases d4 : decide (min one two < (1 : Int))
          case true =>
            go_wp2_with fail
            go_meet
            exact ApPre.yes hM hB
          case false =>
            cases d5 : decide ((1000 : Int) < max one two)
            case true =>
              go_wp2_with fail
              go_meet
              exact ApPre.yes hM hB
            case false =>
              have hnum : Hid (1 ≤ one ∧ one ≤ 1000 ∧ 1 ≤ two ∧ two ≤ 1000) := by
                show _ ∧ _
                simp only [decide_eq_false_iff_not] at d4 d5
                omega
              obtain ⟨m0, m1, m2, m3, m4, m5⟩ := hM.cells
              have hbn := Below.new_ W (.cells #[.int .i8 m.k, .int .i64 m.f, .int .i64 m.n, .int .i64 m.s, .string m.t, .int .i64 m.e] 40)
              go_wp2_with fail
              refine (long_any W.heap.size m _ (LtAt.new W m)).mono ?_
              rintro e w2 ⟨g, rfl, _, hb2⟩
              have hbx := hbn.trans (hb2.mono hbn.size)
              have hM2 := hM.below hbx hM.lt
              have hB2 := hB.trans (hbx.mono hB.size)
              clear m0 m1 m2 m3 m4 m5 hbn hb2 hbx
              go_wp2_with fail
              go_meet
              exact ⟨g, rfl, fun _ => ⟨HAB.out, hnum.out⟩, hM2, hB2⟩
  case rest =>
    obtain ⟨g, rfl, hpre, hM, hB⟩ := hcut

    cases g
    case true =>
      go_wp2_with fail
      refine (wakes18_any _).mono ?_
      rintro e w9 ⟨rfl, hb9⟩
      go_wp2_with fail
      go_ret
      exact ⟨rfl, hB.trans (hb9.mono hB.size)⟩
    case false =>
      obtain ⟨hab, hone, hone2, htwo, htwo2⟩ := hpre rfl
      have HAB := Lib.hid hab
      clear hab hpre
      go_wp2_with fail
      refine (Begin_any 0 cfP _).mono ?_
      rintro e w1 ⟨rfl, hb1⟩
      have hM1 := hM.below hb1 hM.lt
      have hsz : w.heap.size < w1.heap.size := Nat.lt_of_lt_of_le hM.lt hb1.size
      have hB1 := hB.trans (hb1.mono hB.size)
      have hA : NmRow (w1.alloc (.cells #[.int .i64 0, .int .i64 0, .int .i64 0, .int .i64 0, .int .i64 0, .int .i64 0, .int .i64 0, .int .i64 5, .int .i64 5, .int .i64 0, .slice none 0 0, .slice none 0 0, .bool false] 29)) w1.heap.size pH := heap_alloc_new w1 _
      have hM2 := hM1.below (Below.new_ w1 (.cells #[.int .i64 0, .int .i64 0, .int .i64 0, .int .i64 0, .int .i64 0, .int .i64 0, .int .i64 0, .int .i64 5, .int .i64 5, .int .i64 0, .slice none 0 0, .slice none 0 0, .bool false] 29)) hM1.lt
      have hB2 := hB1.alloc hB1.size (.cells #[.int .i64 0, .int .i64 0, .int .i64 0, .int .i64 0, .int .i64 0, .int .i64 0, .int .i64 0, .int .i64 5, .int .i64 5, .int .i64 0, .slice none 0 0, .slice none 0 0, .bool false] 29)
      go_upto_region 4 with fail
      clear hM hB hb1 hM1 hB1
      generalize (w1.alloc (.cells #[.int .i64 0, .int .i64 0, .int .i64 0, .int .i64 0, .int .i64 0, .int .i64 0, .int .i64 0, .int .i64 5, .int .i64 5, .int .i64 0, .slice none 0 0, .slice none 0 0, .bool false] 29)) = V0 at hA hM2 hB2 ⊢
      have hv : NmV w1.heap.size V0 p0 pH := NmV.nil_ _ _ _ _
      obtain ⟨a0, a1, a2, a3, a4, a5, a6, a7, a8, a9, a10, a11, a12⟩ := hA.cells
      go_wp2_with fail
      refine (take_nv w1.heap.size p0 pH 0 ⟨6, one, 0, 0, a, 0⟩ clock 2000 _ hv hA.lt pok0 wf6).mono ?_
      rw [(pk1 a one clock)]
      rintro e w2 ⟨h1, A1, k1, c1, rfl, hv1, hd1, hb1⟩
      obtain rfl : k1 = 2 := hd1.len.symm
      clear a0 a1 a2 a3 a4 a5 a6 a7 a8 a9 a10 a11 a12 hd1
      have hA1 : NmRow w2 w1.heap.size pH := (hb1.block _ hA.lt).trans hA
      have hM1x := hM2.below hb1 hM2.lt
      have hB1x := hB2.trans (hb1.mono hB2.size)
      clear hA hM2 hB2 hv hb1
      obtain ⟨r0, r1, r2, r3, r4, r5, r6, r7, r8, r9, r10, r11, r12⟩ := hA1.cells
      obtain ⟨f0, f1, f2, f3, f4, f5, f6, f7, f8, f9, f10, f11, f12⟩ := hA1.free
      have hX := And.intro (nmPut_at h1 hA1) (And.intro (hv1.put (g := w1.heap.size) (Nat.le_refl _) h1) (And.intro (LtAt.block hM1x (nmPut_other w2 w1.heap.size h1 _ (by omega))) (nmPut_below (g := w1.heap.size) h1 hB1x (by omega))))
      unfold nmPut at hX
      clear hv1 hM1x hB1x
      go_upto_region 5 with fail
      clear r0 r1 r2 r3 r4 r5 r6 r7 r8 r9 r10 r11 r12 f0 f1 f2 f3 f4 f5 f6 f7 f8 f9 f10 f11 f12
      generalize ((((((((((((((w2.setCell ⟨w1.heap.size, 0, none⟩ (.int .i64 h1.id)).setCell ⟨w1.heap.size, 1, none⟩ (.int .i64 h1.cf.1)).setCell ⟨w1.heap.size, 2, none⟩ (.int .i64 h1.cf.2.1)).setCell ⟨w1.heap.size, 3, none⟩ (.int .i64 h1.cf.2.2.1)).setCell ⟨w1.heap.size, 4, none⟩ (.int .i64 h1.cf.2.2.2.1)).setCell ⟨w1.heap.size, 5, none⟩ (.int .i64 h1.cf.2.2.2.2.1)).setCell ⟨w1.heap.size, 6, none⟩ (.int .i64 h1.cf.2.2.2.2.2.1)).setCell ⟨w1.heap.size, 7, none⟩ (.int .i64 h1.cf.2.2.2.2.2.2.1)).setCell ⟨w1.heap.size, 8, none⟩ (.int .i64 h1.cf.2.2.2.2.2.2.2.1)).setCell ⟨w1.heap.size, 9, none⟩ (.int .i64 h1.cf.2.2.2.2.2.2.2.2)).setCell ⟨w1.heap.size, 10, none⟩ (.slice h1.kA h1.kn h1.kc)).setCell ⟨w1.heap.size, 11, none⟩ (.slice h1.fA h1.fn h1.fc)).setCell ⟨w1.heap.size, 12, none⟩ (.bool h1.over))) = V1 at hX ⊢
      obtain ⟨hA, hv, hM2, hB2⟩ := hX
      obtain ⟨a0, a1, a2, a3, a4, a5, a6, a7, a8, a9, a10, a11, a12⟩ := hA.cells
      go_wp2_with fail
      refine (take_nv w1.heap.size (p1 a one) h1 0 ⟨6, two, 0, 0, b, 0⟩ clock 2001 _ hv hA.lt (pok1 a one) wf6).mono ?_
      rw [(pk2 a b one two clock HAB.out)]
      rintro e w3 ⟨h2, A2, k2, c2, rfl, hv2, hd2, hb2⟩
      obtain rfl : k2 = 2 := hd2.len.symm
      clear a0 a1 a2 a3 a4 a5 a6 a7 a8 a9 a10 a11 a12 hd2
      have hA2 : NmRow w3 w1.heap.size h1 := (hb2.block _ hA.lt).trans hA
      have hM2x := hM2.below hb2 hM2.lt
      have hB2x := hB2.trans (hb2.mono hB2.size)
      clear hA hM2 hB2 hv hb2
      obtain ⟨r0, r1, r2, r3, r4, r5, r6, r7, r8, r9, r10, r11, r12⟩ := hA2.cells
      obtain ⟨f0, f1, f2, f3, f4, f5, f6, f7, f8, f9, f10, f11, f12⟩ := hA2.free
      have hX := And.intro (nmPut_at h2 hA2) (And.intro (hv2.put (g := w1.heap.size) (Nat.le_refl _) h2) (And.intro (LtAt.block hM2x (nmPut_other w3 w1.heap.size h2 _ (by omega))) (nmPut_below (g := w1.heap.size) h2 hB2x (by omega))))
      unfold nmPut at hX
      clear hv2 hM2x hB2x
      go_upto_region 6 with fail
      clear r0 r1 r2 r3 r4 r5 r6 r7 r8 r9 r10 r11 r12 f0 f1 f2 f3 f4 f5 f6 f7 f8 f9 f10 f11 f12
      generalize ((((((((((((((w3.setCell ⟨w1.heap.size, 0, none⟩ (.int .i64 h2.id)).setCell ⟨w1.heap.size, 1, none⟩ (.int .i64 h2.cf.1)).setCell ⟨w1.heap.size, 2, none⟩ (.int .i64 h2.cf.2.1)).setCell ⟨w1.heap.size, 3, none⟩ (.int .i64 h2.cf.2.2.1)).setCell ⟨w1.heap.size, 4, none⟩ (.int .i64 h2.cf.2.2.2.1)).setCell ⟨w1.heap.size, 5, none⟩ (.int .i64 h2.cf.2.2.2.2.1)).setCell ⟨w1.heap.size, 6, none⟩ (.int .i64 h2.cf.2.2.2.2.2.1)).setCell ⟨w1.heap.size, 7, none⟩ (.int .i64 h2.cf.2.2.2.2.2.2.1)).setCell ⟨w1.heap.size, 8, none⟩ (.int .i64 h2.cf.2.2.2.2.2.2.2.1)).setCell ⟨w1.heap.size, 9, none⟩ (.int .i64 h2.cf.2.2.2.2.2.2.2.2)).setCell ⟨w1.heap.size, 10, none⟩ (.slice h2.kA h2.kn h2.kc)).setCell ⟨w1.heap.size, 11, none⟩ (.slice h2.fA h2.fn h2.fc)).setCell ⟨w1.heap.size, 12, none⟩ (.bool h2.over))) = V2 at hX ⊢
      obtain ⟨hA, hv, hM2, hB2⟩ := hX
      obtain ⟨a0, a1, a2, a3, a4, a5, a6, a7, a8, a9, a10, a11, a12⟩ := hA.cells
      go_wp2_with fail
      refine (take_nv w1.heap.size (p2 a b one two) h2 0 ⟨6, two, 0, 0, a, 0⟩ clock 2002 _ hv hA.lt (pok2 a b one two) wf6).mono ?_
      rw [(pk3 a b one two clock)]
      rintro e w4 ⟨h3, A3, k3, c3, rfl, hv3, hd3, hb3⟩
      obtain rfl : k3 = 0 := hd3.len.symm
      clear a0 a1 a2 a3 a4 a5 a6 a7 a8 a9 a10 a11 a12 hd3
      have hA3 : NmRow w4 w1.heap.size h2 := (hb3.block _ hA.lt).trans hA
      have hM3x := hM2.below hb3 hM2.lt
      have hB3x := hB2.trans (hb3.mono hB2.size)
      clear hA hM2 hB2 hv hb3
      obtain ⟨r0, r1, r2, r3, r4, r5, r6, r7, r8, r9, r10, r11, r12⟩ := hA3.cells
      obtain ⟨f0, f1, f2, f3, f4, f5, f6, f7, f8, f9, f10, f11, f12⟩ := hA3.free
      have hX := And.intro (nmPut_at h3 hA3) (And.intro (hv3.put (g := w1.heap.size) (Nat.le_refl _) h3) (And.intro (LtAt.block hM3x (nmPut_other w4 w1.heap.size h3 _ (by omega))) (nmPut_below (g := w1.heap.size) h3 hB3x (by omega))))
      unfold nmPut at hX
      clear hv3 hM3x hB3x
      go_upto_region 7 with fail
      clear r0 r1 r2 r3 r4 r5 r6 r7 r8 r9 r10 r11 r12 f0 f1 f2 f3 f4 f5 f6 f7 f8 f9 f10 f11 f12
      generalize ((((((((((((((w4.setCell ⟨w1.heap.size, 0, none⟩ (.int .i64 h3.id)).setCell ⟨w1.heap.size, 1, none⟩ (.int .i64 h3.cf.1)).setCell ⟨w1.heap.size, 2, none⟩ (.int .i64 h3.cf.2.1)).setCell ⟨w1.heap.size, 3, none⟩ (.int .i64 h3.cf.2.2.1)).setCell ⟨w1.heap.size, 4, none⟩ (.int .i64 h3.cf.2.2.2.1)).setCell ⟨w1.heap.size, 5, none⟩ (.int .i64 h3.cf.2.2.2.2.1)).setCell ⟨w1.heap.size, 6, none⟩ (.int .i64 h3.cf.2.2.2.2.2.1)).setCell ⟨w1.heap.size, 7, none⟩ (.int .i64 h3.cf.2.2.2.2.2.2.1)).setCell ⟨w1.heap.size, 8, none⟩ (.int .i64 h3.cf.2.2.2.2.2.2.2.1)).setCell ⟨w1.heap.size, 9, none⟩ (.int .i64 h3.cf.2.2.2.2.2.2.2.2)).setCell ⟨w1.heap.size, 10, none⟩ (.slice h3.kA h3.kn h3.kc)).setCell ⟨w1.heap.size, 11, none⟩ (.slice h3.fA h3.fn h3.fc)).setCell ⟨w1.heap.size, 12, none⟩ (.bool h3.over))) = V3 at hX ⊢
      obtain ⟨hA, hv, hM2, hB2⟩ := hX
      obtain ⟨a0, a1, a2, a3, a4, a5, a6, a7, a8, a9, a10, a11, a12⟩ := hA.cells
      have hfl := flies_nv w1.heap.size (p3 a b one two) h3 (some ⟨V3.heap.size, 0, none⟩) 2 2 [a, b] _ (hv.next (Below.new_ V3 (.cells #[.string a, .string b] 9))) (pok3 a b one two) ((Strs.new2 V3 _ rfl a b 9).more (by simp)) (by omega)
      rw [pf3] at hfl
      go_wp2_with fail
      refine hfl.mono ?_
      rintro e w5 ⟨rfl, hb5⟩
      have hb6 := (Below.new_ V3 (.cells #[.string a, .string b] 9)).trans (hb5.mono (Below.new_ V3 _).size)
      have hA5 : NmRow w5 w1.heap.size h3 := (hb6.block _ hA.lt).trans hA
      have hv5 := hv.next hb6
      have hM5 := hM2.below hb6 hM2.lt
      have hB5 := hB2.trans (hb6.mono hB2.size)
      clear a0 a1 a2 a3 a4 a5 a6 a7 a8 a9 a10 a11 a12 hfl hb5 hb6 hA hv hM2 hB2
      obtain ⟨a0, a1, a2, a3, a4, a5, a6, a7, a8, a9, a10, a11, a12⟩ := hA5.cells
      have has := asked_nv w1.heap.size (p3 a b one two) h3 _ hv5 (pok3 a b one two)
      rw [pa3] at has
      go_wp2_with fail
      refine has.mono ?_
      rintro e w6 ⟨rfl, hb6⟩
      have hA6 : NmRow w6 w1.heap.size h3 := (hb6.block _ hA5.lt).trans hA5
      have hv6 := hv5.next hb6
      have hM6 := hM5.below hb6 hM5.lt
      have hB6 := hB5.trans (hb6.mono hB5.size)
      clear a0 a1 a2 a3 a4 a5 a6 a7 a8 a9 a10 a11 a12 has hb6 hA5 hv5 hM5 hB5
      obtain ⟨a0, a1, a2, a3, a4, a5, a6, a7, a8, a9, a10, a11, a12⟩ := hA6.cells
      obtain ⟨m0, m1, m2, m3, m4, m5⟩ := hM6.cells
      go_wp2_with fail
      refine (take_nv w1.heap.size (p3 a b one two) h3 0 ⟨7, 2000, 0, 0, m.t, m.e⟩ clock 2002 _ hv6 hA6.lt (pok3 a b one two) wf7).mono ?_
      rw [pk4 a b m.t one two m.e clock]
      rintro e w7 ⟨h4, A4, k4, c4, rfl, hv7, hd7, hb7⟩
      obtain rfl : k4 = 2 := hd7.len.symm
      clear a0 a1 a2 a3 a4 a5 a6 a7 a8 a9 a10 a11 a12 m0 m1 m2 m3 m4 m5
      have hM7 := hM6.below hb7 hM6.lt
      have hB7 := hB6.trans (hb7.mono hB6.size)
      have hq7 : w1.heap.size < w7.heap.size := Nat.lt_of_lt_of_le hA6.lt hb7.size
      have hn7 := Below.new_ w7 (.cells #[.int .i64 h4.id, .int .i64 h4.cf.1, .int .i64 h4.cf.2.1, .int .i64 h4.cf.2.2.1, .int .i64 h4.cf.2.2.2.1, .int .i64 h4.cf.2.2.2.2.1, .int .i64 h4.cf.2.2.2.2.2.1, .int .i64 h4.cf.2.2.2.2.2.2.1, .int .i64 h4.cf.2.2.2.2.2.2.2.1, .int .i64 h4.cf.2.2.2.2.2.2.2.2, .slice h4.kA h4.kn h4.kc, .slice h4.fA h4.fn h4.fc, .bool h4.over] 29)
      have hA8 : NmRow (w7.alloc (.cells #[.int .i64 h4.id, .int .i64 h4.cf.1, .int .i64 h4.cf.2.1, .int .i64 h4.cf.2.2.1, .int .i64 h4.cf.2.2.2.1, .int .i64 h4.cf.2.2.2.2.1, .int .i64 h4.cf.2.2.2.2.2.1, .int .i64 h4.cf.2.2.2.2.2.2.1, .int .i64 h4.cf.2.2.2.2.2.2.2.1, .int .i64 h4.cf.2.2.2.2.2.2.2.2, .slice h4.kA h4.kn h4.kc, .slice h4.fA h4.fn h4.fc, .bool h4.over] 29)) w7.heap.size h4 := heap_alloc_new w7 _
      have hv8 := hv7.next hn7
      have hd8 := hd7.next hn7
      have hM8 := hM7.below hn7 hM7.lt
      have hB8 := hB7.alloc hB7.size (.cells #[.int .i64 h4.id, .int .i64 h4.cf.1, .int .i64 h4.cf.2.1, .int .i64 h4.cf.2.2.1, .int .i64 h4.cf.2.2.2.1, .int .i64 h4.cf.2.2.2.2.1, .int .i64 h4.cf.2.2.2.2.2.1, .int .i64 h4.cf.2.2.2.2.2.2.1, .int .i64 h4.cf.2.2.2.2.2.2.2.1, .int .i64 h4.cf.2.2.2.2.2.2.2.2, .slice h4.kA h4.kn h4.kc, .slice h4.fA h4.fn h4.fc, .bool h4.over] 29)
      clear hA6 hv6 hM6 hB6 hv7 hd7 hM7 hB7 hn7 hb7
      go_upto_region 10 with fail
      generalize (w7.alloc (.cells #[.int .i64 h4.id, .int .i64 h4.cf.1, .int .i64 h4.cf.2.1, .int .i64 h4.cf.2.2.1, .int .i64 h4.cf.2.2.2.1, .int .i64 h4.cf.2.2.2.2.1, .int .i64 h4.cf.2.2.2.2.2.1, .int .i64 h4.cf.2.2.2.2.2.2.1, .int .i64 h4.cf.2.2.2.2.2.2.2.1, .int .i64 h4.cf.2.2.2.2.2.2.2.2, .slice h4.kA h4.kn h4.kc, .slice h4.fA h4.fn h4.fc, .bool h4.over] 29)) = V4 at hA8 hv8 hd8 hM8 hB8 ⊢
      obtain ⟨b0, o0, go0, e0, l0, c00, c01, c02, c06, c07, c018, hg0⟩ := hd8.cells (i := 0) (d := tellN m.t m.e one) rfl
      subst e0
      obtain ⟨b1, o1, go1, e1, l1, c10, c11, c12, c16, c17, c118, hg1⟩ := hd8.cells (i := 1) (d := tellN m.t m.e two) rfl
      injection e1 with e1
      injection e1 with e1 e2
      subst e1 e2
      simp only [Nat.zero_mul, Nat.add_zero, Nat.one_mul, tellN] at c00 c01 c02 c06 c07 c018 c10 c11 c12 c16 c17 c118
      clear hg0 hg1 c00 c02 c06 c07 c018 c10 c12 c16 c17 c118 hd8
      obtain ⟨a0, a1, a2, a3, a4, a5, a6, a7, a8, a9, a10, a11, a12⟩ := hA8.cells
      have la := hA8.lt
      have hS : Below V4.heap.size V4 V4.drew := (Below.refl _ _).drew
      go_cut [156] (fun s156 wx => s156 = .bool false ∧ Below V4.heap.size V4 wx)
      case first =>
        as_aux_lemma =>
          refine wp_region_held_drew (S := (fun wx => Below V4.heap.size V4 wx)) (by kernel_rfl) ?_ (fun hHeld => ?_)
          · (try dsimp only); first | done | ((first | exact hS | skip))
          first
            | (refine wpAnyH_take (i := 0) (v := ?_) rfl (by kernel_rfl) (by kernel_rfl) (by kernel_rfl) (fun _ _ _ h => h) (Or.inl ⟨by rfl, ?_⟩) hHeld ?_; rotate_left; (intro wq hSw; (try dsimp only at hSw); go_simp; done))
            | (refine wpAnyH_take (i := 0) (v := ?_) rfl (by kernel_rfl) (by kernel_rfl) (by kernel_rfl) (fun _ _ _ h => h) (Or.inl ⟨by rfl, ?_⟩) hHeld ?_; rotate_left; (intro wq hSw; (try dsimp only at hSw); go_simp; with_reducible rfl))
            | refine wpAnyH_take (i := 0) (v := undef) rfl (by kernel_rfl) (by kernel_rfl) (by kernel_rfl) (fun _ _ _ h => h) (Or.inr ⟨by rfl, rfl⟩) hHeld ?_
          try simp only [Act.put, List.getElem_toArray, List.getElem_cons_succ, List.getElem_cons_zero, List.setIfInBounds_toArray, List.set_cons_zero, List.set_cons_succ]
          first
            | (refine wpAnyH_take (i := 1) (v := ?_) rfl (by kernel_rfl) (by kernel_rfl) (by kernel_rfl) (fun _ _ _ h => h) (Or.inl ⟨by rfl, ?_⟩) hHeld ?_; rotate_left; (intro wq hSw; (try dsimp only at hSw); go_simp; done))
            | (refine wpAnyH_take (i := 1) (v := ?_) rfl (by kernel_rfl) (by kernel_rfl) (by kernel_rfl) (fun _ _ _ h => h) (Or.inl ⟨by rfl, ?_⟩) hHeld ?_; rotate_left; (intro wq hSw; (try dsimp only at hSw); go_simp; with_reducible rfl))
            | refine wpAnyH_take (i := 1) (v := undef) rfl (by kernel_rfl) (by kernel_rfl) (by kernel_rfl) (fun _ _ _ h => h) (Or.inr ⟨by rfl, rfl⟩) hHeld ?_
          try simp only [Act.put, List.getElem_toArray, List.getElem_cons_succ, List.getElem_cons_zero, List.setIfInBounds_toArray, List.set_cons_zero, List.set_cons_succ]
          first
            | (refine wpAnyH_take (i := 2) (v := ?_) rfl (by kernel_rfl) (by kernel_rfl) (by kernel_rfl) (fun _ _ _ h => h) (Or.inl ⟨by rfl, ?_⟩) hHeld ?_; rotate_left; (intro wq hSw; (try dsimp only at hSw); go_simp; done))
            | (refine wpAnyH_take (i := 2) (v := ?_) rfl (by kernel_rfl) (by kernel_rfl) (by kernel_rfl) (fun _ _ _ h => h) (Or.inl ⟨by rfl, ?_⟩) hHeld ?_; rotate_left; (intro wq hSw; (try dsimp only at hSw); go_simp; with_reducible rfl))
            | refine wpAnyH_take (i := 2) (v := undef) rfl (by kernel_rfl) (by kernel_rfl) (by kernel_rfl) (fun _ _ _ h => h) (Or.inr ⟨by rfl, rfl⟩) hHeld ?_
          try simp only [Act.put, List.getElem_toArray, List.getElem_cons_succ, List.getElem_cons_zero, List.setIfInBounds_toArray, List.set_cons_zero, List.set_cons_succ]
          first
            | (refine wpAnyH_take (i := 3) (v := ?_) rfl (by kernel_rfl) (by kernel_rfl) (by kernel_rfl) (fun _ _ _ h => h) (Or.inl ⟨by rfl, ?_⟩) hHeld ?_; rotate_left; (intro wq hSw; (try dsimp only at hSw); go_simp; done))
            | (refine wpAnyH_take (i := 3) (v := ?_) rfl (by kernel_rfl) (by kernel_rfl) (by kernel_rfl) (fun _ _ _ h => h) (Or.inl ⟨by rfl, ?_⟩) hHeld ?_; rotate_left; (intro wq hSw; (try dsimp only at hSw); go_simp; with_reducible rfl))
            | refine wpAnyH_take (i := 3) (v := undef) rfl (by kernel_rfl) (by kernel_rfl) (by kernel_rfl) (fun _ _ _ h => h) (Or.inr ⟨by rfl, rfl⟩) hHeld ?_
          try simp only [Act.put, List.getElem_toArray, List.getElem_cons_succ, List.getElem_cons_zero, List.setIfInBounds_toArray, List.set_cons_zero, List.set_cons_succ]
          first
            | (refine wpAnyH_take (i := 4) (v := ?_) rfl (by kernel_rfl) (by kernel_rfl) (by kernel_rfl) (fun _ _ _ h => h) (Or.inl ⟨by rfl, ?_⟩) hHeld ?_; rotate_left; (intro wq hSw; (try dsimp only at hSw); go_simp; done))
            | (refine wpAnyH_take (i := 4) (v := ?_) rfl (by kernel_rfl) (by kernel_rfl) (by kernel_rfl) (fun _ _ _ h => h) (Or.inl ⟨by rfl, ?_⟩) hHeld ?_; rotate_left; (intro wq hSw; (try dsimp only at hSw); go_simp; with_reducible rfl))
            | refine wpAnyH_take (i := 4) (v := undef) rfl (by kernel_rfl) (by kernel_rfl) (by kernel_rfl) (fun _ _ _ h => h) (Or.inr ⟨by rfl, rfl⟩) hHeld ?_
          try simp only [Act.put, List.getElem_toArray, List.getElem_cons_succ, List.getElem_cons_zero, List.setIfInBounds_toArray, List.set_cons_zero, List.set_cons_succ]
          first
            | (refine wpAnyH_take (i := 8) (v := ?_) rfl (by kernel_rfl) (by kernel_rfl) (by kernel_rfl) (fun _ _ _ h => h) (Or.inl ⟨by rfl, ?_⟩) hHeld ?_; rotate_left; (intro wq hSw; (try dsimp only at hSw); go_simp; done))
            | (refine wpAnyH_take (i := 8) (v := ?_) rfl (by kernel_rfl) (by kernel_rfl) (by kernel_rfl) (fun _ _ _ h => h) (Or.inl ⟨by rfl, ?_⟩) hHeld ?_; rotate_left; (intro wq hSw; (try dsimp only at hSw); go_simp; with_reducible rfl))
            | refine wpAnyH_take (i := 8) (v := undef) rfl (by kernel_rfl) (by kernel_rfl) (by kernel_rfl) (fun _ _ _ h => h) (Or.inr ⟨by rfl, rfl⟩) hHeld ?_
          try simp only [Act.put, List.getElem_toArray, List.getElem_cons_succ, List.getElem_cons_zero, List.setIfInBounds_toArray, List.set_cons_zero, List.set_cons_succ]
          first
            | (refine wpAnyH_take (i := 5) (v := ?_) rfl (by kernel_rfl) (by kernel_rfl) (by kernel_rfl) (fun _ _ _ h => h) (Or.inl ⟨by rfl, ?_⟩) hHeld ?_; rotate_left; (intro wq hSw; (try dsimp only at hSw); go_simp; done))
            | (refine wpAnyH_take (i := 5) (v := ?_) rfl (by kernel_rfl) (by kernel_rfl) (by kernel_rfl) (fun _ _ _ h => h) (Or.inl ⟨by rfl, ?_⟩) hHeld ?_; rotate_left; (intro wq hSw; (try dsimp only at hSw); go_simp; with_reducible rfl))
            | refine wpAnyH_take (i := 5) (v := undef) rfl (by kernel_rfl) (by kernel_rfl) (by kernel_rfl) (fun _ _ _ h => h) (Or.inr ⟨by rfl, rfl⟩) hHeld ?_
          try simp only [Act.put, List.getElem_toArray, List.getElem_cons_succ, List.getElem_cons_zero, List.setIfInBounds_toArray, List.set_cons_zero, List.set_cons_succ]
          first
            | (refine wpAnyH_take (i := 6) (v := ?_) rfl (by kernel_rfl) (by kernel_rfl) (by kernel_rfl) (fun _ _ _ h => h) (Or.inl ⟨by rfl, ?_⟩) hHeld ?_; rotate_left; (intro wq hSw; (try dsimp only at hSw); go_simp; done))
            | (refine wpAnyH_take (i := 6) (v := ?_) rfl (by kernel_rfl) (by kernel_rfl) (by kernel_rfl) (fun _ _ _ h => h) (Or.inl ⟨by rfl, ?_⟩) hHeld ?_; rotate_left; (intro wq hSw; (try dsimp only at hSw); go_simp; with_reducible rfl))
            | refine wpAnyH_take (i := 6) (v := undef) rfl (by kernel_rfl) (by kernel_rfl) (by kernel_rfl) (fun _ _ _ h => h) (Or.inr ⟨by rfl, rfl⟩) hHeld ?_
          try simp only [Act.put, List.getElem_toArray, List.getElem_cons_succ, List.getElem_cons_zero, List.setIfInBounds_toArray, List.set_cons_zero, List.set_cons_succ]
          first
            | (refine wpAnyH_take (i := 7) (v := ?_) rfl (by kernel_rfl) (by kernel_rfl) (by kernel_rfl) (fun _ _ _ h => h) (Or.inl ⟨by rfl, ?_⟩) hHeld ?_; rotate_left; (intro wq hSw; (try dsimp only at hSw); have v0 := (hSw.cell (p := ⟨b0, o0 + 1, none⟩) l0).trans c01; go_simp; done))
            | (refine wpAnyH_take (i := 7) (v := ?_) rfl (by kernel_rfl) (by kernel_rfl) (by kernel_rfl) (fun _ _ _ h => h) (Or.inl ⟨by rfl, ?_⟩) hHeld ?_; rotate_left; (intro wq hSw; (try dsimp only at hSw); have v0 := (hSw.cell (p := ⟨b0, o0 + 1, none⟩) l0).trans c01; go_simp; with_reducible rfl))
            | refine wpAnyH_take (i := 7) (v := undef) rfl (by kernel_rfl) (by kernel_rfl) (by kernel_rfl) (fun _ _ _ h => h) (Or.inr ⟨by rfl, rfl⟩) hHeld ?_
          try simp only [Act.put, List.getElem_toArray, List.getElem_cons_succ, List.getElem_cons_zero, List.setIfInBounds_toArray, List.set_cons_zero, List.set_cons_succ]
          refine wpAnyH_ready (rs := [9]) (by kernel_rfl) (by simp) ?_
          refine AllReadyH.cons rfl (fun K hK => ?_) AllReadyH.nil
          go_simp; go_at_call 10; refine (rOf5_any one 3 _ (by omega) (by omega) (by omega)).mono ?_; rintro e wx ⟨rfl, rfl⟩; try go_wp2_with fail
          refine hK.out _ _ ?_ (fun hHeld => ?_)
          · (try dsimp only); first | done | ((first | exact hS | skip))
          clear hK K
          try simp only [Act.put, List.getElem_toArray, List.getElem_cons_succ, List.getElem_cons_zero, List.setIfInBounds_toArray, List.set_cons_zero, List.set_cons_succ]
          first
            | (refine wpAnyH_take (i := 10) (v := ?_) rfl (by kernel_rfl) (by kernel_rfl) (by kernel_rfl) (fun _ _ _ h => h) (Or.inl ⟨by rfl, ?_⟩) hHeld ?_; rotate_left; (intro wq hSw; (try dsimp only at hSw); go_simp; done))
            | (refine wpAnyH_take (i := 10) (v := ?_) rfl (by kernel_rfl) (by kernel_rfl) (by kernel_rfl) (fun _ _ _ h => h) (Or.inl ⟨by rfl, ?_⟩) hHeld ?_; rotate_left; (intro wq hSw; (try dsimp only at hSw); go_simp; with_reducible rfl))
            | refine wpAnyH_take (i := 10) (v := undef) rfl (by kernel_rfl) (by kernel_rfl) (by kernel_rfl) (fun _ _ _ h => h) (Or.inr ⟨by rfl, rfl⟩) hHeld ?_
          try simp only [Act.put, List.getElem_toArray, List.getElem_cons_succ, List.getElem_cons_zero, List.setIfInBounds_toArray, List.set_cons_zero, List.set_cons_succ]
          first
            | (refine wpAnyH_take (i := 11) (v := ?_) rfl (by kernel_rfl) (by kernel_rfl) (by kernel_rfl) (fun _ _ _ h => h) (Or.inl ⟨by rfl, ?_⟩) hHeld ?_; rotate_left; (intro wq hSw; (try dsimp only at hSw); go_simp; done))
            | (refine wpAnyH_take (i := 11) (v := ?_) rfl (by kernel_rfl) (by kernel_rfl) (by kernel_rfl) (fun _ _ _ h => h) (Or.inl ⟨by rfl, ?_⟩) hHeld ?_; rotate_left; (intro wq hSw; (try dsimp only at hSw); go_simp; with_reducible rfl))
            | refine wpAnyH_take (i := 11) (v := undef) rfl (by kernel_rfl) (by kernel_rfl) (by kernel_rfl) (fun _ _ _ h => h) (Or.inr ⟨by rfl, rfl⟩) hHeld ?_
          try simp only [Act.put, List.getElem_toArray, List.getElem_cons_succ, List.getElem_cons_zero, List.setIfInBounds_toArray, List.set_cons_zero, List.set_cons_succ]
          first
            | (refine wpAnyH_take (i := 12) (v := ?_) rfl (by kernel_rfl) (by kernel_rfl) (by kernel_rfl) (fun _ _ _ h => h) (Or.inl ⟨by rfl, ?_⟩) hHeld ?_; rotate_left; (intro wq hSw; (try dsimp only at hSw); go_simp; done))
            | (refine wpAnyH_take (i := 12) (v := ?_) rfl (by kernel_rfl) (by kernel_rfl) (by kernel_rfl) (fun _ _ _ h => h) (Or.inl ⟨by rfl, ?_⟩) hHeld ?_; rotate_left; (intro wq hSw; (try dsimp only at hSw); go_simp; with_reducible rfl))
            | refine wpAnyH_take (i := 12) (v := undef) rfl (by kernel_rfl) (by kernel_rfl) (by kernel_rfl) (fun _ _ _ h => h) (Or.inr ⟨by rfl, rfl⟩) hHeld ?_
          try simp only [Act.put, List.getElem_toArray, List.getElem_cons_succ, List.getElem_cons_zero, List.setIfInBounds_toArray, List.set_cons_zero, List.set_cons_succ]
          first
            | (refine wpAnyH_take (i := 13) (v := ?_) rfl (by kernel_rfl) (by kernel_rfl) (by kernel_rfl) (fun _ _ _ h => h) (Or.inl ⟨by rfl, ?_⟩) hHeld ?_; rotate_left; (intro wq hSw; (try dsimp only at hSw); go_simp; done))
            | (refine wpAnyH_take (i := 13) (v := ?_) rfl (by kernel_rfl) (by kernel_rfl) (by kernel_rfl) (fun _ _ _ h => h) (Or.inl ⟨by rfl, ?_⟩) hHeld ?_; rotate_left; (intro wq hSw; (try dsimp only at hSw); go_simp; with_reducible rfl))
            | refine wpAnyH_take (i := 13) (v := undef) rfl (by kernel_rfl) (by kernel_rfl) (by kernel_rfl) (fun _ _ _ h => h) (Or.inr ⟨by rfl, rfl⟩) hHeld ?_
          try simp only [Act.put, List.getElem_toArray, List.getElem_cons_succ, List.getElem_cons_zero, List.setIfInBounds_toArray, List.set_cons_zero, List.set_cons_succ]
          first
            | (refine wpAnyH_take (i := 17) (v := ?_) rfl (by kernel_rfl) (by kernel_rfl) (by kernel_rfl) (fun _ _ _ h => h) (Or.inl ⟨by rfl, ?_⟩) hHeld ?_; rotate_left; (intro wq hSw; (try dsimp only at hSw); go_simp; done))
            | (refine wpAnyH_take (i := 17) (v := ?_) rfl (by kernel_rfl) (by kernel_rfl) (by kernel_rfl) (fun _ _ _ h => h) (Or.inl ⟨by rfl, ?_⟩) hHeld ?_; rotate_left; (intro wq hSw; (try dsimp only at hSw); go_simp; with_reducible rfl))
            | refine wpAnyH_take (i := 17) (v := undef) rfl (by kernel_rfl) (by kernel_rfl) (by kernel_rfl) (fun _ _ _ h => h) (Or.inr ⟨by rfl, rfl⟩) hHeld ?_
          try simp only [Act.put, List.getElem_toArray, List.getElem_cons_succ, List.getElem_cons_zero, List.setIfInBounds_toArray, List.set_cons_zero, List.set_cons_succ]
          first
            | (refine wpAnyH_take (i := 14) (v := ?_) rfl (by kernel_rfl) (by kernel_rfl) (by kernel_rfl) (fun _ _ _ h => h) (Or.inl ⟨by rfl, ?_⟩) hHeld ?_; rotate_left; (intro wq hSw; (try dsimp only at hSw); go_simp; done))
            | (refine wpAnyH_take (i := 14) (v := ?_) rfl (by kernel_rfl) (by kernel_rfl) (by kernel_rfl) (fun _ _ _ h => h) (Or.inl ⟨by rfl, ?_⟩) hHeld ?_; rotate_left; (intro wq hSw; (try dsimp only at hSw); go_simp; with_reducible rfl))
            | refine wpAnyH_take (i := 14) (v := undef) rfl (by kernel_rfl) (by kernel_rfl) (by kernel_rfl) (fun _ _ _ h => h) (Or.inr ⟨by rfl, rfl⟩) hHeld ?_
          try simp only [Act.put, List.getElem_toArray, List.getElem_cons_succ, List.getElem_cons_zero, List.setIfInBounds_toArray, List.set_cons_zero, List.set_cons_succ]
          first
            | (refine wpAnyH_take (i := 15) (v := ?_) rfl (by kernel_rfl) (by kernel_rfl) (by kernel_rfl) (fun _ _ _ h => h) (Or.inl ⟨by rfl, ?_⟩) hHeld ?_; rotate_left; (intro wq hSw; (try dsimp only at hSw); go_simp; done))
            | (refine wpAnyH_take (i := 15) (v := ?_) rfl (by kernel_rfl) (by kernel_rfl) (by kernel_rfl) (fun _ _ _ h => h) (Or.inl ⟨by rfl, ?_⟩) hHeld ?_; rotate_left; (intro wq hSw; (try dsimp only at hSw); go_simp; with_reducible rfl))
            | refine wpAnyH_take (i := 15) (v := undef) rfl (by kernel_rfl) (by kernel_rfl) (by kernel_rfl) (fun _ _ _ h => h) (Or.inr ⟨by rfl, rfl⟩) hHeld ?_
          try simp only [Act.put, List.getElem_toArray, List.getElem_cons_succ, List.getElem_cons_zero, List.setIfInBounds_toArray, List.set_cons_zero, List.set_cons_succ]
          first
            | (refine wpAnyH_take (i := 16) (v := ?_) rfl (by kernel_rfl) (by kernel_rfl) (by kernel_rfl) (fun _ _ _ h => h) (Or.inl ⟨by rfl, ?_⟩) hHeld ?_; rotate_left; (intro wq hSw; (try dsimp only at hSw); have v0 := (hSw.cell (p := ⟨b0, o0 + 19 + 1, none⟩) l0).trans c11; go_simp; done))
            | (refine wpAnyH_take (i := 16) (v := ?_) rfl (by kernel_rfl) (by kernel_rfl) (by kernel_rfl) (fun _ _ _ h => h) (Or.inl ⟨by rfl, ?_⟩) hHeld ?_; rotate_left; (intro wq hSw; (try dsimp only at hSw); have v0 := (hSw.cell (p := ⟨b0, o0 + 19 + 1, none⟩) l0).trans c11; go_simp; with_reducible rfl))
            | refine wpAnyH_take (i := 16) (v := undef) rfl (by kernel_rfl) (by kernel_rfl) (by kernel_rfl) (fun _ _ _ h => h) (Or.inr ⟨by rfl, rfl⟩) hHeld ?_
          try simp only [Act.put, List.getElem_toArray, List.getElem_cons_succ, List.getElem_cons_zero, List.setIfInBounds_toArray, List.set_cons_zero, List.set_cons_succ]
          refine wpAnyH_ready (rs := [18]) (by kernel_rfl) (by simp) ?_
          refine AllReadyH.cons rfl (fun K hK => ?_) AllReadyH.nil
          go_simp; go_at_call 10; refine (rOf5_any two 3 _ (by omega) (by omega) (by omega)).mono ?_; rintro e wx ⟨rfl, rfl⟩; try go_wp2_with fail
          refine hK.out _ _ ?_ (fun hHeld => ?_)
          · (try dsimp only); first | done | ((first | exact hS | skip))
          clear hK K
          try simp only [Act.put, List.getElem_toArray, List.getElem_cons_succ, List.getElem_cons_zero, List.setIfInBounds_toArray, List.set_cons_zero, List.set_cons_succ]
          first
            | (refine wpAnyH_take (i := 19) (v := ?_) rfl (by kernel_rfl) (by kernel_rfl) (by kernel_rfl) (fun _ _ _ h => h) (Or.inl ⟨by rfl, ?_⟩) hHeld ?_; rotate_left; (intro wq hSw; (try dsimp only at hSw); go_simp; done))
            | (refine wpAnyH_take (i := 19) (v := ?_) rfl (by kernel_rfl) (by kernel_rfl) (by kernel_rfl) (fun _ _ _ h => h) (Or.inl ⟨by rfl, ?_⟩) hHeld ?_; rotate_left; (intro wq hSw; (try dsimp only at hSw); go_simp; with_reducible rfl))
            | refine wpAnyH_take (i := 19) (v := undef) rfl (by kernel_rfl) (by kernel_rfl) (by kernel_rfl) (fun _ _ _ h => h) (Or.inr ⟨by rfl, rfl⟩) hHeld ?_
          try simp only [Act.put, List.getElem_toArray, List.getElem_cons_succ, List.getElem_cons_zero, List.setIfInBounds_toArray, List.set_cons_zero, List.set_cons_succ]
          first
            | (refine wpAnyH_take (i := 20) (v := ?_) rfl (by kernel_rfl) (by kernel_rfl) (by kernel_rfl) (fun _ _ _ h => h) (Or.inl ⟨by rfl, ?_⟩) hHeld ?_; rotate_left; (intro wq hSw; (try dsimp only at hSw); go_simp; done))
            | (refine wpAnyH_take (i := 20) (v := ?_) rfl (by kernel_rfl) (by kernel_rfl) (by kernel_rfl) (fun _ _ _ h => h) (Or.inl ⟨by rfl, ?_⟩) hHeld ?_; rotate_left; (intro wq hSw; (try dsimp only at hSw); go_simp; with_reducible rfl))
            | refine wpAnyH_take (i := 20) (v := undef) rfl (by kernel_rfl) (by kernel_rfl) (by kernel_rfl) (fun _ _ _ h => h) (Or.inr ⟨by rfl, rfl⟩) hHeld ?_
          try simp only [Act.put, List.getElem_toArray, List.getElem_cons_succ, List.getElem_cons_zero, List.setIfInBounds_toArray, List.set_cons_zero, List.set_cons_succ]
          first
            | (refine wpAnyH_take (i := 21) (v := ?_) rfl (by kernel_rfl) (by kernel_rfl) (by kernel_rfl) (fun _ _ _ h => h) (Or.inl ⟨by rfl, ?_⟩) hHeld ?_; rotate_left; (intro wq hSw; (try dsimp only at hSw); go_simp; done))
            | (refine wpAnyH_take (i := 21) (v := ?_) rfl (by kernel_rfl) (by kernel_rfl) (by kernel_rfl) (fun _ _ _ h => h) (Or.inl ⟨by rfl, ?_⟩) hHeld ?_; rotate_left; (intro wq hSw; (try dsimp only at hSw); go_simp; with_reducible rfl))
            | refine wpAnyH_take (i := 21) (v := undef) rfl (by kernel_rfl) (by kernel_rfl) (by kernel_rfl) (fun _ _ _ h => h) (Or.inr ⟨by rfl, rfl⟩) hHeld ?_
          try simp only [Act.put, List.getElem_toArray, List.getElem_cons_succ, List.getElem_cons_zero, List.setIfInBounds_toArray, List.set_cons_zero, List.set_cons_succ]
          first
            | (refine wpAnyH_take (i := 22) (v := ?_) rfl (by kernel_rfl) (by kernel_rfl) (by kernel_rfl) (fun _ _ _ h => h) (Or.inl ⟨by rfl, ?_⟩) hHeld ?_; rotate_left; (intro wq hSw; (try dsimp only at hSw); have v0 := (hSw.cell (p := ⟨w7.heap.size, 0, none⟩) la).trans a0; have v1 := (hSw.cell (p := ⟨w7.heap.size, 1, none⟩) la).trans a1; have v2 := (hSw.cell (p := ⟨w7.heap.size, 2, none⟩) la).trans a2; have v3 := (hSw.cell (p := ⟨w7.heap.size, 3, none⟩) la).trans a3; have v4 := (hSw.cell (p := ⟨w7.heap.size, 4, none⟩) la).trans a4; have v5 := (hSw.cell (p := ⟨w7.heap.size, 5, none⟩) la).trans a5; have v6 := (hSw.cell (p := ⟨w7.heap.size, 6, none⟩) la).trans a6; have v7 := (hSw.cell (p := ⟨w7.heap.size, 7, none⟩) la).trans a7; have v8 := (hSw.cell (p := ⟨w7.heap.size, 8, none⟩) la).trans a8; have v9 := (hSw.cell (p := ⟨w7.heap.size, 9, none⟩) la).trans a9; have v10 := (hSw.cell (p := ⟨w7.heap.size, 10, none⟩) la).trans a10; have v11 := (hSw.cell (p := ⟨w7.heap.size, 11, none⟩) la).trans a11; have v12 := (hSw.cell (p := ⟨w7.heap.size, 12, none⟩) la).trans a12; go_simp; done))
            | (refine wpAnyH_take (i := 22) (v := ?_) rfl (by kernel_rfl) (by kernel_rfl) (by kernel_rfl) (fun _ _ _ h => h) (Or.inl ⟨by rfl, ?_⟩) hHeld ?_; rotate_left; (intro wq hSw; (try dsimp only at hSw); have v0 := (hSw.cell (p := ⟨w7.heap.size, 0, none⟩) la).trans a0; have v1 := (hSw.cell (p := ⟨w7.heap.size, 1, none⟩) la).trans a1; have v2 := (hSw.cell (p := ⟨w7.heap.size, 2, none⟩) la).trans a2; have v3 := (hSw.cell (p := ⟨w7.heap.size, 3, none⟩) la).trans a3; have v4 := (hSw.cell (p := ⟨w7.heap.size, 4, none⟩) la).trans a4; have v5 := (hSw.cell (p := ⟨w7.heap.size, 5, none⟩) la).trans a5; have v6 := (hSw.cell (p := ⟨w7.heap.size, 6, none⟩) la).trans a6; have v7 := (hSw.cell (p := ⟨w7.heap.size, 7, none⟩) la).trans a7; have v8 := (hSw.cell (p := ⟨w7.heap.size, 8, none⟩) la).trans a8; have v9 := (hSw.cell (p := ⟨w7.heap.size, 9, none⟩) la).trans a9; have v10 := (hSw.cell (p := ⟨w7.heap.size, 10, none⟩) la).trans a10; have v11 := (hSw.cell (p := ⟨w7.heap.size, 11, none⟩) la).trans a11; have v12 := (hSw.cell (p := ⟨w7.heap.size, 12, none⟩) la).trans a12; go_simp; with_reducible rfl))
            | refine wpAnyH_take (i := 22) (v := undef) rfl (by kernel_rfl) (by kernel_rfl) (by kernel_rfl) (fun _ _ _ h => h) (Or.inr ⟨by rfl, rfl⟩) hHeld ?_
          try simp only [Act.put, List.getElem_toArray, List.getElem_cons_succ, List.getElem_cons_zero, List.setIfInBounds_toArray, List.set_cons_zero, List.set_cons_succ]
          first
            | (refine wpAnyH_take (i := 23) (v := ?_) rfl (by kernel_rfl) (by kernel_rfl) (by kernel_rfl) (fun _ _ _ h => h) (Or.inl ⟨by rfl, ?_⟩) hHeld ?_; rotate_left; (intro wq hSw; (try dsimp only at hSw); go_simp; done))
            | (refine wpAnyH_take (i := 23) (v := ?_) rfl (by kernel_rfl) (by kernel_rfl) (by kernel_rfl) (fun _ _ _ h => h) (Or.inl ⟨by rfl, ?_⟩) hHeld ?_; rotate_left; (intro wq hSw; (try dsimp only at hSw); go_simp; with_reducible rfl))
            | refine wpAnyH_take (i := 23) (v := undef) rfl (by kernel_rfl) (by kernel_rfl) (by kernel_rfl) (fun _ _ _ h => h) (Or.inr ⟨by rfl, rfl⟩) hHeld ?_
          try simp only [Act.put, List.getElem_toArray, List.getElem_cons_succ, List.getElem_cons_zero, List.setIfInBounds_toArray, List.set_cons_zero, List.set_cons_succ]
          refine wpAnyH_ready (rs := [24]) (by kernel_rfl) (by simp) ?_
          refine AllReadyH.cons rfl (fun K hK => ?_) AllReadyH.nil
          go_simp; replace hS := (Below.new_ V4 (.cells #[.string a] 9)).drew
          refine hK.out _ _ ?_ (fun hHeld => ?_)
          · (try dsimp only); first | done | ((first | exact hS | skip))
          clear hK K
          try simp only [Act.put, List.getElem_toArray, List.getElem_cons_succ, List.getElem_cons_zero, List.setIfInBounds_toArray, List.set_cons_zero, List.set_cons_succ]
          refine wpAnyH_ready (rs := [25]) (by kernel_rfl) (by simp) ?_
          refine AllReadyH.cons rfl (fun K hK => ?_) AllReadyH.nil
          go_simp; have hflx := flies_nv w1.heap.size (p4 a b one two m.t m.e clock) h4 (some ⟨V4.heap.size, 0, none⟩) 1 1 [a] _ (hv8.next hS) (pok4 a b m.t one two m.e clock) (((Strs.new1 V4 _ rfl a 9).more (by simp)).drew) (by omega); rw [pf4a a b m.t one two m.e clock HAB.out] at hflx; refine hflx.mono ?_; rintro e wf ⟨rfl, hbx⟩; replace hS := hS.trans (hbx.mono hS.size); clear hflx hbx; try go_wp2_with fail
          refine hK.out _ _ ?_ (fun hHeld => ?_)
          · (try dsimp only); first | done | ((first | exact hS | skip))
          clear hK K
          try simp only [Act.put, List.getElem_toArray, List.getElem_cons_succ, List.getElem_cons_zero, List.setIfInBounds_toArray, List.set_cons_zero, List.set_cons_succ]
          first
            | (refine wpAnyH_take (i := 26) (v := ?_) rfl (by kernel_rfl) (by kernel_rfl) (by kernel_rfl) (fun _ _ _ h => h) (Or.inl ⟨by rfl, ?_⟩) hHeld ?_; rotate_left; (intro wq hSw; (try dsimp only at hSw); go_simp; done))
            | (refine wpAnyH_take (i := 26) (v := ?_) rfl (by kernel_rfl) (by kernel_rfl) (by kernel_rfl) (fun _ _ _ h => h) (Or.inl ⟨by rfl, ?_⟩) hHeld ?_; rotate_left; (intro wq hSw; (try dsimp only at hSw); go_simp; with_reducible rfl))
            | refine wpAnyH_take (i := 26) (v := undef) rfl (by kernel_rfl) (by kernel_rfl) (by kernel_rfl) (fun _ _ _ h => h) (Or.inr ⟨by rfl, rfl⟩) hHeld ?_
          try simp only [Act.put, List.getElem_toArray, List.getElem_cons_succ, List.getElem_cons_zero, List.setIfInBounds_toArray, List.set_cons_zero, List.set_cons_succ]
          first
            | (refine wpAnyH_take (i := 27) (v := ?_) rfl (by kernel_rfl) (by kernel_rfl) (by kernel_rfl) (fun _ _ _ h => h) (Or.inl ⟨by rfl, ?_⟩) hHeld ?_; rotate_left; (intro wq hSw; (try dsimp only at hSw); go_simp; done))
            | (refine wpAnyH_take (i := 27) (v := ?_) rfl (by kernel_rfl) (by kernel_rfl) (by kernel_rfl) (fun _ _ _ h => h) (Or.inl ⟨by rfl, ?_⟩) hHeld ?_; rotate_left; (intro wq hSw; (try dsimp only at hSw); go_simp; with_reducible rfl))
            | refine wpAnyH_take (i := 27) (v := undef) rfl (by kernel_rfl) (by kernel_rfl) (by kernel_rfl) (fun _ _ _ h => h) (Or.inr ⟨by rfl, rfl⟩) hHeld ?_
          try simp only [Act.put, List.getElem_toArray, List.getElem_cons_succ, List.getElem_cons_zero, List.setIfInBounds_toArray, List.set_cons_zero, List.set_cons_succ]
          first
            | (refine wpAnyH_take (i := 28) (v := ?_) rfl (by kernel_rfl) (by kernel_rfl) (by kernel_rfl) (fun _ _ _ h => h) (Or.inl ⟨by rfl, ?_⟩) hHeld ?_; rotate_left; (intro wq hSw; (try dsimp only at hSw); have v0 := (hSw.cell (p := ⟨w7.heap.size, 0, none⟩) la).trans a0; have v1 := (hSw.cell (p := ⟨w7.heap.size, 1, none⟩) la).trans a1; have v2 := (hSw.cell (p := ⟨w7.heap.size, 2, none⟩) la).trans a2; have v3 := (hSw.cell (p := ⟨w7.heap.size, 3, none⟩) la).trans a3; have v4 := (hSw.cell (p := ⟨w7.heap.size, 4, none⟩) la).trans a4; have v5 := (hSw.cell (p := ⟨w7.heap.size, 5, none⟩) la).trans a5; have v6 := (hSw.cell (p := ⟨w7.heap.size, 6, none⟩) la).trans a6; have v7 := (hSw.cell (p := ⟨w7.heap.size, 7, none⟩) la).trans a7; have v8 := (hSw.cell (p := ⟨w7.heap.size, 8, none⟩) la).trans a8; have v9 := (hSw.cell (p := ⟨w7.heap.size, 9, none⟩) la).trans a9; have v10 := (hSw.cell (p := ⟨w7.heap.size, 10, none⟩) la).trans a10; have v11 := (hSw.cell (p := ⟨w7.heap.size, 11, none⟩) la).trans a11; have v12 := (hSw.cell (p := ⟨w7.heap.size, 12, none⟩) la).trans a12; go_simp; done))
            | (refine wpAnyH_take (i := 28) (v := ?_) rfl (by kernel_rfl) (by kernel_rfl) (by kernel_rfl) (fun _ _ _ h => h) (Or.inl ⟨by rfl, ?_⟩) hHeld ?_; rotate_left; (intro wq hSw; (try dsimp only at hSw); have v0 := (hSw.cell (p := ⟨w7.heap.size, 0, none⟩) la).trans a0; have v1 := (hSw.cell (p := ⟨w7.heap.size, 1, none⟩) la).trans a1; have v2 := (hSw.cell (p := ⟨w7.heap.size, 2, none⟩) la).trans a2; have v3 := (hSw.cell (p := ⟨w7.heap.size, 3, none⟩) la).trans a3; have v4 := (hSw.cell (p := ⟨w7.heap.size, 4, none⟩) la).trans a4; have v5 := (hSw.cell (p := ⟨w7.heap.size, 5, none⟩) la).trans a5; have v6 := (hSw.cell (p := ⟨w7.heap.size, 6, none⟩) la).trans a6; have v7 := (hSw.cell (p := ⟨w7.heap.size, 7, none⟩) la).trans a7; have v8 := (hSw.cell (p := ⟨w7.heap.size, 8, none⟩) la).trans a8; have v9 := (hSw.cell (p := ⟨w7.heap.size, 9, none⟩) la).trans a9; have v10 := (hSw.cell (p := ⟨w7.heap.size, 10, none⟩) la).trans a10; have v11 := (hSw.cell (p := ⟨w7.heap.size, 11, none⟩) la).trans a11; have v12 := (hSw.cell (p := ⟨w7.heap.size, 12, none⟩) la).trans a12; go_simp; with_reducible rfl))
            | refine wpAnyH_take (i := 28) (v := undef) rfl (by kernel_rfl) (by kernel_rfl) (by kernel_rfl) (fun _ _ _ h => h) (Or.inr ⟨by rfl, rfl⟩) hHeld ?_
          try simp only [Act.put, List.getElem_toArray, List.getElem_cons_succ, List.getElem_cons_zero, List.setIfInBounds_toArray, List.set_cons_zero, List.set_cons_succ]
          first
            | (refine wpAnyH_take (i := 29) (v := ?_) rfl (by kernel_rfl) (by kernel_rfl) (by kernel_rfl) (fun _ _ _ h => h) (Or.inl ⟨by rfl, ?_⟩) hHeld ?_; rotate_left; (intro wq hSw; (try dsimp only at hSw); go_simp; done))
            | (refine wpAnyH_take (i := 29) (v := ?_) rfl (by kernel_rfl) (by kernel_rfl) (by kernel_rfl) (fun _ _ _ h => h) (Or.inl ⟨by rfl, ?_⟩) hHeld ?_; rotate_left; (intro wq hSw; (try dsimp only at hSw); go_simp; with_reducible rfl))
            | refine wpAnyH_take (i := 29) (v := undef) rfl (by kernel_rfl) (by kernel_rfl) (by kernel_rfl) (fun _ _ _ h => h) (Or.inr ⟨by rfl, rfl⟩) hHeld ?_
          try simp only [Act.put, List.getElem_toArray, List.getElem_cons_succ, List.getElem_cons_zero, List.setIfInBounds_toArray, List.set_cons_zero, List.set_cons_succ]
          refine wpAnyH_ready (rs := [30]) (by kernel_rfl) (by simp) ?_
          refine AllReadyH.cons rfl (fun K hK => ?_) AllReadyH.nil
          go_simp; have hS0 := hS; replace hS := hS.trans ((Below.new_ wf (.cells #[.string b] 9)).mono hS.size)
          refine hK.out _ _ ?_ (fun hHeld => ?_)
          · (try dsimp only); first | done | ((first | exact hS | skip))
          clear hK K
          try simp only [Act.put, List.getElem_toArray, List.getElem_cons_succ, List.getElem_cons_zero, List.setIfInBounds_toArray, List.set_cons_zero, List.set_cons_succ]
          refine wpAnyH_ready (rs := [31]) (by kernel_rfl) (by simp) ?_
          refine AllReadyH.cons rfl (fun K hK => ?_) AllReadyH.nil
          go_simp; have hflx := flies_nv w1.heap.size (p4 a b one two m.t m.e clock) h4 (some ⟨wf.heap.size, 0, none⟩) 1 1 [b] _ (hv8.next hS) (pok4 a b m.t one two m.e clock) ((Strs.new1 wf _ rfl b 9).more (by simp)) (by omega); rw [pf4b] at hflx; refine hflx.mono ?_; rintro e wg ⟨rfl, hbx⟩; replace hS := hS.trans (hbx.mono hS.size); clear hflx hbx; try go_wp2_with fail
          refine hK.out _ _ ?_ (fun hHeld => ?_)
          · (try dsimp only); first | done | ((first | exact hS | skip))
          clear hK K
          try simp only [Act.put, List.getElem_toArray, List.getElem_cons_succ, List.getElem_cons_zero, List.setIfInBounds_toArray, List.set_cons_zero, List.set_cons_succ]
          first
            | (refine wpAnyH_take (i := 32) (v := ?_) rfl (by kernel_rfl) (by kernel_rfl) (by kernel_rfl) (fun _ _ _ h => h) (Or.inl ⟨by rfl, ?_⟩) hHeld ?_; rotate_left; (intro wq hSw; (try dsimp only at hSw); go_simp; done))
            | (refine wpAnyH_take (i := 32) (v := ?_) rfl (by kernel_rfl) (by kernel_rfl) (by kernel_rfl) (fun _ _ _ h => h) (Or.inl ⟨by rfl, ?_⟩) hHeld ?_; rotate_left; (intro wq hSw; (try dsimp only at hSw); go_simp; with_reducible rfl))
            | refine wpAnyH_take (i := 32) (v := undef) rfl (by kernel_rfl) (by kernel_rfl) (by kernel_rfl) (fun _ _ _ h => h) (Or.inr ⟨by rfl, rfl⟩) hHeld ?_
          try simp only [Act.put, List.getElem_toArray, List.getElem_cons_succ, List.getElem_cons_zero, List.setIfInBounds_toArray, List.set_cons_zero, List.set_cons_succ]
          first
            | (refine wpAnyH_take (i := 33) (v := ?_) rfl (by kernel_rfl) (by kernel_rfl) (by kernel_rfl) (fun _ _ _ h => h) (Or.inl ⟨by rfl, ?_⟩) hHeld ?_; rotate_left; (intro wq hSw; (try dsimp only at hSw); go_simp; done))
            | (refine wpAnyH_take (i := 33) (v := ?_) rfl (by kernel_rfl) (by kernel_rfl) (by kernel_rfl) (fun _ _ _ h => h) (Or.inl ⟨by rfl, ?_⟩) hHeld ?_; rotate_left; (intro wq hSw; (try dsimp only at hSw); go_simp; with_reducible rfl))
            | refine wpAnyH_take (i := 33) (v := undef) rfl (by kernel_rfl) (by kernel_rfl) (by kernel_rfl) (fun _ _ _ h => h) (Or.inr ⟨by rfl, rfl⟩) hHeld ?_
          try simp only [Act.put, List.getElem_toArray, List.getElem_cons_succ, List.getElem_cons_zero, List.setIfInBounds_toArray, List.set_cons_zero, List.set_cons_succ]
          first
            | (refine wpAnyH_take (i := 34) (v := ?_) rfl (by kernel_rfl) (by kernel_rfl) (by kernel_rfl) (fun _ _ _ h => h) (Or.inl ⟨by rfl, ?_⟩) hHeld ?_; rotate_left; (intro wq hSw; (try dsimp only at hSw); go_simp; done))
            | (refine wpAnyH_take (i := 34) (v := ?_) rfl (by kernel_rfl) (by kernel_rfl) (by kernel_rfl) (fun _ _ _ h => h) (Or.inl ⟨by rfl, ?_⟩) hHeld ?_; rotate_left; (intro wq hSw; (try dsimp only at hSw); go_simp; with_reducible rfl))
            | refine wpAnyH_take (i := 34) (v := undef) rfl (by kernel_rfl) (by kernel_rfl) (by kernel_rfl) (fun _ _ _ h => h) (Or.inr ⟨by rfl, rfl⟩) hHeld ?_
          try simp only [Act.put, List.getElem_toArray, List.getElem_cons_succ, List.getElem_cons_zero, List.setIfInBounds_toArray, List.set_cons_zero, List.set_cons_succ]
          first
            | (refine wpAnyH_take (i := 35) (v := ?_) rfl (by kernel_rfl) (by kernel_rfl) (by kernel_rfl) (fun _ _ _ h => h) (Or.inl ⟨by rfl, ?_⟩) hHeld ?_; rotate_left; (intro wq hSw; (try dsimp only at hSw); have v0 := (hSw.cell (p := ⟨w7.heap.size, 0, none⟩) la).trans a0; have v1 := (hSw.cell (p := ⟨w7.heap.size, 1, none⟩) la).trans a1; have v2 := (hSw.cell (p := ⟨w7.heap.size, 2, none⟩) la).trans a2; have v3 := (hSw.cell (p := ⟨w7.heap.size, 3, none⟩) la).trans a3; have v4 := (hSw.cell (p := ⟨w7.heap.size, 4, none⟩) la).trans a4; have v5 := (hSw.cell (p := ⟨w7.heap.size, 5, none⟩) la).trans a5; have v6 := (hSw.cell (p := ⟨w7.heap.size, 6, none⟩) la).trans a6; have v7 := (hSw.cell (p := ⟨w7.heap.size, 7, none⟩) la).trans a7; have v8 := (hSw.cell (p := ⟨w7.heap.size, 8, none⟩) la).trans a8; have v9 := (hSw.cell (p := ⟨w7.heap.size, 9, none⟩) la).trans a9; have v10 := (hSw.cell (p := ⟨w7.heap.size, 10, none⟩) la).trans a10; have v11 := (hSw.cell (p := ⟨w7.heap.size, 11, none⟩) la).trans a11; have v12 := (hSw.cell (p := ⟨w7.heap.size, 12, none⟩) la).trans a12; go_simp; done))
            | (refine wpAnyH_take (i := 35) (v := ?_) rfl (by kernel_rfl) (by kernel_rfl) (by kernel_rfl) (fun _ _ _ h => h) (Or.inl ⟨by rfl, ?_⟩) hHeld ?_; rotate_left; (intro wq hSw; (try dsimp only at hSw); have v0 := (hSw.cell (p := ⟨w7.heap.size, 0, none⟩) la).trans a0; have v1 := (hSw.cell (p := ⟨w7.heap.size, 1, none⟩) la).trans a1; have v2 := (hSw.cell (p := ⟨w7.heap.size, 2, none⟩) la).trans a2; have v3 := (hSw.cell (p := ⟨w7.heap.size, 3, none⟩) la).trans a3; have v4 := (hSw.cell (p := ⟨w7.heap.size, 4, none⟩) la).trans a4; have v5 := (hSw.cell (p := ⟨w7.heap.size, 5, none⟩) la).trans a5; have v6 := (hSw.cell (p := ⟨w7.heap.size, 6, none⟩) la).trans a6; have v7 := (hSw.cell (p := ⟨w7.heap.size, 7, none⟩) la).trans a7; have v8 := (hSw.cell (p := ⟨w7.heap.size, 8, none⟩) la).trans a8; have v9 := (hSw.cell (p := ⟨w7.heap.size, 9, none⟩) la).trans a9; have v10 := (hSw.cell (p := ⟨w7.heap.size, 10, none⟩) la).trans a10; have v11 := (hSw.cell (p := ⟨w7.heap.size, 11, none⟩) la).trans a11; have v12 := (hSw.cell (p := ⟨w7.heap.size, 12, none⟩) la).trans a12; go_simp; with_reducible rfl))
            | refine wpAnyH_take (i := 35) (v := undef) rfl (by kernel_rfl) (by kernel_rfl) (by kernel_rfl) (fun _ _ _ h => h) (Or.inr ⟨by rfl, rfl⟩) hHeld ?_
          try simp only [Act.put, List.getElem_toArray, List.getElem_cons_succ, List.getElem_cons_zero, List.setIfInBounds_toArray, List.set_cons_zero, List.set_cons_succ]
          refine wpAnyH_ready (rs := [36]) (by kernel_rfl) (by simp) ?_
          refine AllReadyH.cons rfl (fun K hK => ?_) AllReadyH.nil
          go_simp; have hasx := asked_nv w1.heap.size (p4 a b one two m.t m.e clock) h4 _ (hv8.next hS) (pok4 a b m.t one two m.e clock); rw [pa4] at hasx; refine hasx.mono ?_; rintro e wx ⟨rfl, hbx⟩; replace hS := hS.trans (hbx.mono hS.size); clear hasx hbx; try go_wp2_with fail
          refine hK.out _ _ ?_ (fun hHeld => ?_)
          · (try dsimp only); first | done | ((first | exact hS | skip))
          clear hK K
          try simp only [Act.put, List.getElem_toArray, List.getElem_cons_succ, List.getElem_cons_zero, List.setIfInBounds_toArray, List.set_cons_zero, List.set_cons_succ]
          first
            | (refine wpAnyH_take (i := 37) (v := ?_) rfl (by kernel_rfl) (by kernel_rfl) (by kernel_rfl) (fun _ _ _ h => h) (Or.inl ⟨by rfl, ?_⟩) hHeld ?_; rotate_left; (intro wq hSw; (try dsimp only at hSw); go_simp; done))
            | (refine wpAnyH_take (i := 37) (v := ?_) rfl (by kernel_rfl) (by kernel_rfl) (by kernel_rfl) (fun _ _ _ h => h) (Or.inl ⟨by rfl, ?_⟩) hHeld ?_; rotate_left; (intro wq hSw; (try dsimp only at hSw); go_simp; with_reducible rfl))
            | refine wpAnyH_take (i := 37) (v := undef) rfl (by kernel_rfl) (by kernel_rfl) (by kernel_rfl) (fun _ _ _ h => h) (Or.inr ⟨by rfl, rfl⟩) hHeld ?_
          try simp only [Act.put, List.getElem_toArray, List.getElem_cons_succ, List.getElem_cons_zero, List.setIfInBounds_toArray, List.set_cons_zero, List.set_cons_succ]
          first
            | (refine wpAnyH_take (i := 38) (v := ?_) rfl (by kernel_rfl) (by kernel_rfl) (by kernel_rfl) (fun _ _ _ h => h) (Or.inl ⟨by rfl, ?_⟩) hHeld ?_; rotate_left; (intro wq hSw; (try dsimp only at hSw); go_simp; done))
            | (refine wpAnyH_take (i := 38) (v := ?_) rfl (by kernel_rfl) (by kernel_rfl) (by kernel_rfl) (fun _ _ _ h => h) (Or.inl ⟨by rfl, ?_⟩) hHeld ?_; rotate_left; (intro wq hSw; (try dsimp only at hSw); go_simp; with_reducible rfl))
            | refine wpAnyH_take (i := 38) (v := undef) rfl (by kernel_rfl) (by kernel_rfl) (by kernel_rfl) (fun _ _ _ h => h) (Or.inr ⟨by rfl, rfl⟩) hHeld ?_
          try simp only [Act.put, List.getElem_toArray, List.getElem_cons_succ, List.getElem_cons_zero, List.setIfInBounds_toArray, List.set_cons_zero, List.set_cons_succ]
          refine wpAnyH_done (by kernel_rfl) ?_ _
          go_wp2_with fail; go_meet; exact ⟨rfl, hS⟩
      case rest =>
        as_aux_lemma =>
          obtain ⟨rfl, hSw⟩ := hcut
          clear hS c01 c11 a0 a1 a2 a3 a4 a5 a6 a7 a8 a9 a10 a11 a12
          have hA9 : NmRow _ w7.heap.size h4 := (hSw.block _ hA8.lt).trans hA8
          have hv9 := hv8.next hSw
          have hM9 := hM8.below hSw hM8.lt
          have hB9 := hB8.trans (hSw.mono hB8.size)
          clear hA8 hv8 hM8 hB8 hSw la l0 l1
          obtain ⟨a0, a1, a2, a3, a4, a5, a6, a7, a8, a9, a10, a11, a12⟩ := hA9.cells
          obtain ⟨m0, m1, m2, m3, m4, m5⟩ := hM9.cells
          go_wp2_with fail
          refine (take_nv w1.heap.size (p4 a b one two m.t m.e clock) h4 0 ⟨7, 2001, 0, 0, m.t, m.e⟩ clock 2002 _ hv9 (Nat.lt_trans hq7 hA9.lt) (pok4 a b m.t one two m.e clock) wf7).mono ?_
          rw [pk5 a b m.t one two m.e clock]
          rintro e wa ⟨h5, A5, k5, c5, rfl, hva, hda, hba⟩
          obtain rfl : k5 = 1 := hda.len.symm
          have hBa := hB9.trans (hba.mono hB9.size)
          have hna := Below.new_ wa (.cells #[.int .i64 h5.id, .int .i64 h5.cf.1, .int .i64 h5.cf.2.1, .int .i64 h5.cf.2.2.1, .int .i64 h5.cf.2.2.2.1, .int .i64 h5.cf.2.2.2.2.1, .int .i64 h5.cf.2.2.2.2.2.1, .int .i64 h5.cf.2.2.2.2.2.2.1, .int .i64 h5.cf.2.2.2.2.2.2.2.1, .int .i64 h5.cf.2.2.2.2.2.2.2.2, .slice h5.kA h5.kn h5.kc, .slice h5.fA h5.fn h5.fc, .bool h5.over] 29)
          have hAb : NmRow (wa.alloc (.cells #[.int .i64 h5.id, .int .i64 h5.cf.1, .int .i64 h5.cf.2.1, .int .i64 h5.cf.2.2.1, .int .i64 h5.cf.2.2.2.1, .int .i64 h5.cf.2.2.2.2.1, .int .i64 h5.cf.2.2.2.2.2.1, .int .i64 h5.cf.2.2.2.2.2.2.1, .int .i64 h5.cf.2.2.2.2.2.2.2.1, .int .i64 h5.cf.2.2.2.2.2.2.2.2, .slice h5.kA h5.kn h5.kc, .slice h5.fA h5.fn h5.fc, .bool h5.over] 29)) wa.heap.size h5 := heap_alloc_new wa _
          have hvb := hva.next hna
          have hdb := hda.next hna
          have hBb := hBa.alloc hBa.size (.cells #[.int .i64 h5.id, .int .i64 h5.cf.1, .int .i64 h5.cf.2.1, .int .i64 h5.cf.2.2.1, .int .i64 h5.cf.2.2.2.1, .int .i64 h5.cf.2.2.2.2.1, .int .i64 h5.cf.2.2.2.2.2.1, .int .i64 h5.cf.2.2.2.2.2.2.1, .int .i64 h5.cf.2.2.2.2.2.2.2.1, .int .i64 h5.cf.2.2.2.2.2.2.2.2, .slice h5.kA h5.kn h5.kc, .slice h5.fA h5.fn h5.fc, .bool h5.over] 29)
          clear a0 a1 a2 a3 a4 a5 a6 a7 a8 a9 a10 a11 a12 m0 m1 m2 m3 m4 m5 hA9 hv9 hM9 hB9 hva hda hba hBa hna
          go_upto_region 13 with fail
          generalize (wa.alloc (.cells #[.int .i64 h5.id, .int .i64 h5.cf.1, .int .i64 h5.cf.2.1, .int .i64 h5.cf.2.2.1, .int .i64 h5.cf.2.2.2.1, .int .i64 h5.cf.2.2.2.2.1, .int .i64 h5.cf.2.2.2.2.2.1, .int .i64 h5.cf.2.2.2.2.2.2.1, .int .i64 h5.cf.2.2.2.2.2.2.2.1, .int .i64 h5.cf.2.2.2.2.2.2.2.2, .slice h5.kA h5.kn h5.kc, .slice h5.fA h5.fn h5.fc, .bool h5.over] 29)) = V5 at hAb hvb hdb hBb ⊢
          obtain ⟨b3, o3, go3, e3, l3, c30, c31, c32, c36, c37, c318, hg3⟩ := hdb.cells (i := 0) (d := tellN m.t m.e two) rfl
          subst e3
          simp only [Nat.zero_mul, Nat.add_zero, tellN] at c30 c31 c32 c36 c37 c318
          clear hg3 c30 c32 c36 c37 c318 hdb
          obtain ⟨a0, a1, a2, a3, a4, a5, a6, a7, a8, a9, a10, a11, a12⟩ := hAb.cells
          have la := hAb.lt
          have hov : h5.over = false := hvb.over
          have HOV := Lib.hid hov
          clear hov
          have hS : Below V5.heap.size V5 V5.drew := (Below.refl _ _).drew
          as_aux_lemma =>
            refine wp_region_held_drew (S := (fun wx => Below V5.heap.size V5 wx)) (by kernel_rfl) ?_ (fun hHeld => ?_)
            · (try dsimp only); first | done | ((first | exact hS | skip))
            first
              | (refine wpAnyH_take (i := 0) (v := ?_) rfl (by kernel_rfl) (by kernel_rfl) (by kernel_rfl) (fun _ _ _ h => h) (Or.inl ⟨by rfl, ?_⟩) hHeld ?_; rotate_left; (intro wq hSw; (try dsimp only at hSw); go_simp; done))
              | (refine wpAnyH_take (i := 0) (v := ?_) rfl (by kernel_rfl) (by kernel_rfl) (by kernel_rfl) (fun _ _ _ h => h) (Or.inl ⟨by rfl, ?_⟩) hHeld ?_; rotate_left; (intro wq hSw; (try dsimp only at hSw); go_simp; with_reducible rfl))
              | refine wpAnyH_take (i := 0) (v := undef) rfl (by kernel_rfl) (by kernel_rfl) (by kernel_rfl) (fun _ _ _ h => h) (Or.inr ⟨by rfl, rfl⟩) hHeld ?_
            try simp only [Act.put, List.getElem_toArray, List.getElem_cons_succ, List.getElem_cons_zero, List.setIfInBounds_toArray, List.set_cons_zero, List.set_cons_succ]
            first
              | (refine wpAnyH_take (i := 1) (v := ?_) rfl (by kernel_rfl) (by kernel_rfl) (by kernel_rfl) (fun _ _ _ h => h) (Or.inl ⟨by rfl, ?_⟩) hHeld ?_; rotate_left; (intro wq hSw; (try dsimp only at hSw); go_simp; done))
              | (refine wpAnyH_take (i := 1) (v := ?_) rfl (by kernel_rfl) (by kernel_rfl) (by kernel_rfl) (fun _ _ _ h => h) (Or.inl ⟨by rfl, ?_⟩) hHeld ?_; rotate_left; (intro wq hSw; (try dsimp only at hSw); go_simp; with_reducible rfl))
              | refine wpAnyH_take (i := 1) (v := undef) rfl (by kernel_rfl) (by kernel_rfl) (by kernel_rfl) (fun _ _ _ h => h) (Or.inr ⟨by rfl, rfl⟩) hHeld ?_
            try simp only [Act.put, List.getElem_toArray, List.getElem_cons_succ, List.getElem_cons_zero, List.setIfInBounds_toArray, List.set_cons_zero, List.set_cons_succ]
            first
              | (refine wpAnyH_take (i := 2) (v := ?_) rfl (by kernel_rfl) (by kernel_rfl) (by kernel_rfl) (fun _ _ _ h => h) (Or.inl ⟨by rfl, ?_⟩) hHeld ?_; rotate_left; (intro wq hSw; (try dsimp only at hSw); go_simp; done))
              | (refine wpAnyH_take (i := 2) (v := ?_) rfl (by kernel_rfl) (by kernel_rfl) (by kernel_rfl) (fun _ _ _ h => h) (Or.inl ⟨by rfl, ?_⟩) hHeld ?_; rotate_left; (intro wq hSw; (try dsimp only at hSw); go_simp; with_reducible rfl))
              | refine wpAnyH_take (i := 2) (v := undef) rfl (by kernel_rfl) (by kernel_rfl) (by kernel_rfl) (fun _ _ _ h => h) (Or.inr ⟨by rfl, rfl⟩) hHeld ?_
            try simp only [Act.put, List.getElem_toArray, List.getElem_cons_succ, List.getElem_cons_zero, List.setIfInBounds_toArray, List.set_cons_zero, List.set_cons_succ]
            first
              | (refine wpAnyH_take (i := 3) (v := ?_) rfl (by kernel_rfl) (by kernel_rfl) (by kernel_rfl) (fun _ _ _ h => h) (Or.inl ⟨by rfl, ?_⟩) hHeld ?_; rotate_left; (intro wq hSw; (try dsimp only at hSw); go_simp; done))
              | (refine wpAnyH_take (i := 3) (v := ?_) rfl (by kernel_rfl) (by kernel_rfl) (by kernel_rfl) (fun _ _ _ h => h) (Or.inl ⟨by rfl, ?_⟩) hHeld ?_; rotate_left; (intro wq hSw; (try dsimp only at hSw); go_simp; with_reducible rfl))
              | refine wpAnyH_take (i := 3) (v := undef) rfl (by kernel_rfl) (by kernel_rfl) (by kernel_rfl) (fun _ _ _ h => h) (Or.inr ⟨by rfl, rfl⟩) hHeld ?_
            try simp only [Act.put, List.getElem_toArray, List.getElem_cons_succ, List.getElem_cons_zero, List.setIfInBounds_toArray, List.set_cons_zero, List.set_cons_succ]
            first
              | (refine wpAnyH_take (i := 4) (v := ?_) rfl (by kernel_rfl) (by kernel_rfl) (by kernel_rfl) (fun _ _ _ h => h) (Or.inl ⟨by rfl, ?_⟩) hHeld ?_; rotate_left; (intro wq hSw; (try dsimp only at hSw); go_simp; done))
              | (refine wpAnyH_take (i := 4) (v := ?_) rfl (by kernel_rfl) (by kernel_rfl) (by kernel_rfl) (fun _ _ _ h => h) (Or.inl ⟨by rfl, ?_⟩) hHeld ?_; rotate_left; (intro wq hSw; (try dsimp only at hSw); go_simp; with_reducible rfl))
              | refine wpAnyH_take (i := 4) (v := undef) rfl (by kernel_rfl) (by kernel_rfl) (by kernel_rfl) (fun _ _ _ h => h) (Or.inr ⟨by rfl, rfl⟩) hHeld ?_
            try simp only [Act.put, List.getElem_toArray, List.getElem_cons_succ, List.getElem_cons_zero, List.setIfInBounds_toArray, List.set_cons_zero, List.set_cons_succ]
            first
              | (refine wpAnyH_take (i := 8) (v := ?_) rfl (by kernel_rfl) (by kernel_rfl) (by kernel_rfl) (fun _ _ _ h => h) (Or.inl ⟨by rfl, ?_⟩) hHeld ?_; rotate_left; (intro wq hSw; (try dsimp only at hSw); go_simp; done))
              | (refine wpAnyH_take (i := 8) (v := ?_) rfl (by kernel_rfl) (by kernel_rfl) (by kernel_rfl) (fun _ _ _ h => h) (Or.inl ⟨by rfl, ?_⟩) hHeld ?_; rotate_left; (intro wq hSw; (try dsimp only at hSw); go_simp; with_reducible rfl))
              | refine wpAnyH_take (i := 8) (v := undef) rfl (by kernel_rfl) (by kernel_rfl) (by kernel_rfl) (fun _ _ _ h => h) (Or.inr ⟨by rfl, rfl⟩) hHeld ?_
            try simp only [Act.put, List.getElem_toArray, List.getElem_cons_succ, List.getElem_cons_zero, List.setIfInBounds_toArray, List.set_cons_zero, List.set_cons_succ]
            first
              | (refine wpAnyH_take (i := 5) (v := ?_) rfl (by kernel_rfl) (by kernel_rfl) (by kernel_rfl) (fun _ _ _ h => h) (Or.inl ⟨by rfl, ?_⟩) hHeld ?_; rotate_left; (intro wq hSw; (try dsimp only at hSw); go_simp; done))
              | (refine wpAnyH_take (i := 5) (v := ?_) rfl (by kernel_rfl) (by kernel_rfl) (by kernel_rfl) (fun _ _ _ h => h) (Or.inl ⟨by rfl, ?_⟩) hHeld ?_; rotate_left; (intro wq hSw; (try dsimp only at hSw); go_simp; with_reducible rfl))
              | refine wpAnyH_take (i := 5) (v := undef) rfl (by kernel_rfl) (by kernel_rfl) (by kernel_rfl) (fun _ _ _ h => h) (Or.inr ⟨by rfl, rfl⟩) hHeld ?_
            try simp only [Act.put, List.getElem_toArray, List.getElem_cons_succ, List.getElem_cons_zero, List.setIfInBounds_toArray, List.set_cons_zero, List.set_cons_succ]
            first
              | (refine wpAnyH_take (i := 6) (v := ?_) rfl (by kernel_rfl) (by kernel_rfl) (by kernel_rfl) (fun _ _ _ h => h) (Or.inl ⟨by rfl, ?_⟩) hHeld ?_; rotate_left; (intro wq hSw; (try dsimp only at hSw); go_simp; done))
              | (refine wpAnyH_take (i := 6) (v := ?_) rfl (by kernel_rfl) (by kernel_rfl) (by kernel_rfl) (fun _ _ _ h => h) (Or.inl ⟨by rfl, ?_⟩) hHeld ?_; rotate_left; (intro wq hSw; (try dsimp only at hSw); go_simp; with_reducible rfl))
              | refine wpAnyH_take (i := 6) (v := undef) rfl (by kernel_rfl) (by kernel_rfl) (by kernel_rfl) (fun _ _ _ h => h) (Or.inr ⟨by rfl, rfl⟩) hHeld ?_
            try simp only [Act.put, List.getElem_toArray, List.getElem_cons_succ, List.getElem_cons_zero, List.setIfInBounds_toArray, List.set_cons_zero, List.set_cons_succ]
            first
              | (refine wpAnyH_take (i := 7) (v := ?_) rfl (by kernel_rfl) (by kernel_rfl) (by kernel_rfl) (fun _ _ _ h => h) (Or.inl ⟨by rfl, ?_⟩) hHeld ?_; rotate_left; (intro wq hSw; (try dsimp only at hSw); have v0 := (hSw.cell (p := ⟨b3, o3 + 1, none⟩) l3).trans c31; go_simp; done))
              | (refine wpAnyH_take (i := 7) (v := ?_) rfl (by kernel_rfl) (by kernel_rfl) (by kernel_rfl) (fun _ _ _ h => h) (Or.inl ⟨by rfl, ?_⟩) hHeld ?_; rotate_left; (intro wq hSw; (try dsimp only at hSw); have v0 := (hSw.cell (p := ⟨b3, o3 + 1, none⟩) l3).trans c31; go_simp; with_reducible rfl))
              | refine wpAnyH_take (i := 7) (v := undef) rfl (by kernel_rfl) (by kernel_rfl) (by kernel_rfl) (fun _ _ _ h => h) (Or.inr ⟨by rfl, rfl⟩) hHeld ?_
            try simp only [Act.put, List.getElem_toArray, List.getElem_cons_succ, List.getElem_cons_zero, List.setIfInBounds_toArray, List.set_cons_zero, List.set_cons_succ]
            refine wpAnyH_ready (rs := [9]) (by kernel_rfl) (by simp) ?_
            refine AllReadyH.cons rfl (fun K hK => ?_) AllReadyH.nil
            go_simp; go_at_call 10; refine (rOf5_any two 3 _ (by omega) (by omega) (by omega)).mono ?_; rintro e wx ⟨rfl, rfl⟩; try go_wp2_with fail
            refine hK.out _ _ ?_ (fun hHeld => ?_)
            · (try dsimp only); first | done | ((first | exact hS | skip))
            clear hK K
            try simp only [Act.put, List.getElem_toArray, List.getElem_cons_succ, List.getElem_cons_zero, List.setIfInBounds_toArray, List.set_cons_zero, List.set_cons_succ]
            first
              | (refine wpAnyH_take (i := 10) (v := ?_) rfl (by kernel_rfl) (by kernel_rfl) (by kernel_rfl) (fun _ _ _ h => h) (Or.inl ⟨by rfl, ?_⟩) hHeld ?_; rotate_left; (intro wq hSw; (try dsimp only at hSw); go_simp; done))
              | (refine wpAnyH_take (i := 10) (v := ?_) rfl (by kernel_rfl) (by kernel_rfl) (by kernel_rfl) (fun _ _ _ h => h) (Or.inl ⟨by rfl, ?_⟩) hHeld ?_; rotate_left; (intro wq hSw; (try dsimp only at hSw); go_simp; with_reducible rfl))
              | refine wpAnyH_take (i := 10) (v := undef) rfl (by kernel_rfl) (by kernel_rfl) (by kernel_rfl) (fun _ _ _ h => h) (Or.inr ⟨by rfl, rfl⟩) hHeld ?_
            try simp only [Act.put, List.getElem_toArray, List.getElem_cons_succ, List.getElem_cons_zero, List.setIfInBounds_toArray, List.set_cons_zero, List.set_cons_succ]
            first
              | (refine wpAnyH_take (i := 11) (v := ?_) rfl (by kernel_rfl) (by kernel_rfl) (by kernel_rfl) (fun _ _ _ h => h) (Or.inl ⟨by rfl, ?_⟩) hHeld ?_; rotate_left; (intro wq hSw; (try dsimp only at hSw); go_simp; done))
              | (refine wpAnyH_take (i := 11) (v := ?_) rfl (by kernel_rfl) (by kernel_rfl) (by kernel_rfl) (fun _ _ _ h => h) (Or.inl ⟨by rfl, ?_⟩) hHeld ?_; rotate_left; (intro wq hSw; (try dsimp only at hSw); go_simp; with_reducible rfl))
              | refine wpAnyH_take (i := 11) (v := undef) rfl (by kernel_rfl) (by kernel_rfl) (by kernel_rfl) (fun _ _ _ h => h) (Or.inr ⟨by rfl, rfl⟩) hHeld ?_
            try simp only [Act.put, List.getElem_toArray, List.getElem_cons_succ, List.getElem_cons_zero, List.setIfInBounds_toArray, List.set_cons_zero, List.set_cons_succ]
            first
              | (refine wpAnyH_take (i := 12) (v := ?_) rfl (by kernel_rfl) (by kernel_rfl) (by kernel_rfl) (fun _ _ _ h => h) (Or.inl ⟨by rfl, ?_⟩) hHeld ?_; rotate_left; (intro wq hSw; (try dsimp only at hSw); go_simp; done))
              | (refine wpAnyH_take (i := 12) (v := ?_) rfl (by kernel_rfl) (by kernel_rfl) (by kernel_rfl) (fun _ _ _ h => h) (Or.inl ⟨by rfl, ?_⟩) hHeld ?_; rotate_left; (intro wq hSw; (try dsimp only at hSw); go_simp; with_reducible rfl))
              | refine wpAnyH_take (i := 12) (v := undef) rfl (by kernel_rfl) (by kernel_rfl) (by kernel_rfl) (fun _ _ _ h => h) (Or.inr ⟨by rfl, rfl⟩) hHeld ?_
            try simp only [Act.put, List.getElem_toArray, List.getElem_cons_succ, List.getElem_cons_zero, List.setIfInBounds_toArray, List.set_cons_zero, List.set_cons_succ]
            first
              | (refine wpAnyH_take (i := 13) (v := ?_) rfl (by kernel_rfl) (by kernel_rfl) (by kernel_rfl) (fun _ _ _ h => h) (Or.inl ⟨by rfl, ?_⟩) hHeld ?_; rotate_left; (intro wq hSw; (try dsimp only at hSw); have v0 := (hSw.cell (p := ⟨wa.heap.size, 0, none⟩) la).trans a0; have v1 := (hSw.cell (p := ⟨wa.heap.size, 1, none⟩) la).trans a1; have v2 := (hSw.cell (p := ⟨wa.heap.size, 2, none⟩) la).trans a2; have v3 := (hSw.cell (p := ⟨wa.heap.size, 3, none⟩) la).trans a3; have v4 := (hSw.cell (p := ⟨wa.heap.size, 4, none⟩) la).trans a4; have v5 := (hSw.cell (p := ⟨wa.heap.size, 5, none⟩) la).trans a5; have v6 := (hSw.cell (p := ⟨wa.heap.size, 6, none⟩) la).trans a6; have v7 := (hSw.cell (p := ⟨wa.heap.size, 7, none⟩) la).trans a7; have v8 := (hSw.cell (p := ⟨wa.heap.size, 8, none⟩) la).trans a8; have v9 := (hSw.cell (p := ⟨wa.heap.size, 9, none⟩) la).trans a9; have v10 := (hSw.cell (p := ⟨wa.heap.size, 10, none⟩) la).trans a10; have v11 := (hSw.cell (p := ⟨wa.heap.size, 11, none⟩) la).trans a11; have v12 := (hSw.cell (p := ⟨wa.heap.size, 12, none⟩) la).trans a12; go_simp; done))
              | (refine wpAnyH_take (i := 13) (v := ?_) rfl (by kernel_rfl) (by kernel_rfl) (by kernel_rfl) (fun _ _ _ h => h) (Or.inl ⟨by rfl, ?_⟩) hHeld ?_; rotate_left; (intro wq hSw; (try dsimp only at hSw); have v0 := (hSw.cell (p := ⟨wa.heap.size, 0, none⟩) la).trans a0; have v1 := (hSw.cell (p := ⟨wa.heap.size, 1, none⟩) la).trans a1; have v2 := (hSw.cell (p := ⟨wa.heap.size, 2, none⟩) la).trans a2; have v3 := (hSw.cell (p := ⟨wa.heap.size, 3, none⟩) la).trans a3; have v4 := (hSw.cell (p := ⟨wa.heap.size, 4, none⟩) la).trans a4; have v5 := (hSw.cell (p := ⟨wa.heap.size, 5, none⟩) la).trans a5; have v6 := (hSw.cell (p := ⟨wa.heap.size, 6, none⟩) la).trans a6; have v7 := (hSw.cell (p := ⟨wa.heap.size, 7, none⟩) la).trans a7; have v8 := (hSw.cell (p := ⟨wa.heap.size, 8, none⟩) la).trans a8; have v9 := (hSw.cell (p := ⟨wa.heap.size, 9, none⟩) la).trans a9; have v10 := (hSw.cell (p := ⟨wa.heap.size, 10, none⟩) la).trans a10; have v11 := (hSw.cell (p := ⟨wa.heap.size, 11, none⟩) la).trans a11; have v12 := (hSw.cell (p := ⟨wa.heap.size, 12, none⟩) la).trans a12; go_simp; with_reducible rfl))
              | refine wpAnyH_take (i := 13) (v := undef) rfl (by kernel_rfl) (by kernel_rfl) (by kernel_rfl) (fun _ _ _ h => h) (Or.inr ⟨by rfl, rfl⟩) hHeld ?_
            try simp only [Act.put, List.getElem_toArray, List.getElem_cons_succ, List.getElem_cons_zero, List.setIfInBounds_toArray, List.set_cons_zero, List.set_cons_succ]
            refine wpAnyH_ready (rs := [14]) (by kernel_rfl) (by simp) ?_
            refine AllReadyH.cons rfl (fun K hK => ?_) AllReadyH.nil
            go_simp; have hasx := asked_nv w1.heap.size (p5 a b one two m.t m.e clock) h5 _ (hvb.next hS) (pok5 a b m.t one two m.e clock); rw [pa5] at hasx; refine hasx.mono ?_; rintro e wx ⟨rfl, hbx⟩; replace hS := hS.trans (hbx.mono hS.size); clear hasx hbx; try go_wp2_with fail
            refine hK.out _ _ ?_ (fun hHeld => ?_)
            · (try dsimp only); first | done | ((first | exact hS | skip))
            clear hK K
            try simp only [Act.put, List.getElem_toArray, List.getElem_cons_succ, List.getElem_cons_zero, List.setIfInBounds_toArray, List.set_cons_zero, List.set_cons_succ]
            first
              | (refine wpAnyH_take (i := 15) (v := ?_) rfl (by kernel_rfl) (by kernel_rfl) (by kernel_rfl) (fun _ _ _ h => h) (Or.inl ⟨by rfl, ?_⟩) hHeld ?_; rotate_left; (intro wq hSw; (try dsimp only at hSw); go_simp; done))
              | (refine wpAnyH_take (i := 15) (v := ?_) rfl (by kernel_rfl) (by kernel_rfl) (by kernel_rfl) (fun _ _ _ h => h) (Or.inl ⟨by rfl, ?_⟩) hHeld ?_; rotate_left; (intro wq hSw; (try dsimp only at hSw); go_simp; with_reducible rfl))
              | refine wpAnyH_take (i := 15) (v := undef) rfl (by kernel_rfl) (by kernel_rfl) (by kernel_rfl) (fun _ _ _ h => h) (Or.inr ⟨by rfl, rfl⟩) hHeld ?_
            try simp only [Act.put, List.getElem_toArray, List.getElem_cons_succ, List.getElem_cons_zero, List.setIfInBounds_toArray, List.set_cons_zero, List.set_cons_succ]
            first
              | (refine wpAnyH_take (i := 16) (v := ?_) rfl (by kernel_rfl) (by kernel_rfl) (by kernel_rfl) (fun _ _ _ h => h) (Or.inl ⟨by rfl, ?_⟩) hHeld ?_; rotate_left; (intro wq hSw; (try dsimp only at hSw); go_simp; done))
              | (refine wpAnyH_take (i := 16) (v := ?_) rfl (by kernel_rfl) (by kernel_rfl) (by kernel_rfl) (fun _ _ _ h => h) (Or.inl ⟨by rfl, ?_⟩) hHeld ?_; rotate_left; (intro wq hSw; (try dsimp only at hSw); go_simp; with_reducible rfl))
              | refine wpAnyH_take (i := 16) (v := undef) rfl (by kernel_rfl) (by kernel_rfl) (by kernel_rfl) (fun _ _ _ h => h) (Or.inr ⟨by rfl, rfl⟩) hHeld ?_
            try simp only [Act.put, List.getElem_toArray, List.getElem_cons_succ, List.getElem_cons_zero, List.setIfInBounds_toArray, List.set_cons_zero, List.set_cons_succ]
            first
              | (refine wpAnyH_take (i := 17) (v := ?_) rfl (by kernel_rfl) (by kernel_rfl) (by kernel_rfl) (fun _ _ _ h => h) (Or.inl ⟨by rfl, ?_⟩) hHeld ?_; rotate_left; (intro wq hSw; (try dsimp only at hSw); go_simp; done))
              | (refine wpAnyH_take (i := 17) (v := ?_) rfl (by kernel_rfl) (by kernel_rfl) (by kernel_rfl) (fun _ _ _ h => h) (Or.inl ⟨by rfl, ?_⟩) hHeld ?_; rotate_left; (intro wq hSw; (try dsimp only at hSw); go_simp; with_reducible rfl))
              | refine wpAnyH_take (i := 17) (v := undef) rfl (by kernel_rfl) (by kernel_rfl) (by kernel_rfl) (fun _ _ _ h => h) (Or.inr ⟨by rfl, rfl⟩) hHeld ?_
            try simp only [Act.put, List.getElem_toArray, List.getElem_cons_succ, List.getElem_cons_zero, List.setIfInBounds_toArray, List.set_cons_zero, List.set_cons_succ]
            first
              | (refine wpAnyH_take (i := 18) (v := ?_) rfl (by kernel_rfl) (by kernel_rfl) (by kernel_rfl) (fun _ _ _ h => h) (Or.inl ⟨by rfl, ?_⟩) hHeld ?_; rotate_left; (intro wq hSw; (try dsimp only at hSw); have v0 := (hSw.cell (p := ⟨wa.heap.size, 0, none⟩) la).trans a0; have v1 := (hSw.cell (p := ⟨wa.heap.size, 1, none⟩) la).trans a1; have v2 := (hSw.cell (p := ⟨wa.heap.size, 2, none⟩) la).trans a2; have v3 := (hSw.cell (p := ⟨wa.heap.size, 3, none⟩) la).trans a3; have v4 := (hSw.cell (p := ⟨wa.heap.size, 4, none⟩) la).trans a4; have v5 := (hSw.cell (p := ⟨wa.heap.size, 5, none⟩) la).trans a5; have v6 := (hSw.cell (p := ⟨wa.heap.size, 6, none⟩) la).trans a6; have v7 := (hSw.cell (p := ⟨wa.heap.size, 7, none⟩) la).trans a7; have v8 := (hSw.cell (p := ⟨wa.heap.size, 8, none⟩) la).trans a8; have v9 := (hSw.cell (p := ⟨wa.heap.size, 9, none⟩) la).trans a9; have v10 := (hSw.cell (p := ⟨wa.heap.size, 10, none⟩) la).trans a10; have v11 := (hSw.cell (p := ⟨wa.heap.size, 11, none⟩) la).trans a11; have v12 := (hSw.cell (p := ⟨wa.heap.size, 12, none⟩) la).trans a12; go_simp; done))
              | (refine wpAnyH_take (i := 18) (v := ?_) rfl (by kernel_rfl) (by kernel_rfl) (by kernel_rfl) (fun _ _ _ h => h) (Or.inl ⟨by rfl, ?_⟩) hHeld ?_; rotate_left; (intro wq hSw; (try dsimp only at hSw); have v0 := (hSw.cell (p := ⟨wa.heap.size, 0, none⟩) la).trans a0; have v1 := (hSw.cell (p := ⟨wa.heap.size, 1, none⟩) la).trans a1; have v2 := (hSw.cell (p := ⟨wa.heap.size, 2, none⟩) la).trans a2; have v3 := (hSw.cell (p := ⟨wa.heap.size, 3, none⟩) la).trans a3; have v4 := (hSw.cell (p := ⟨wa.heap.size, 4, none⟩) la).trans a4; have v5 := (hSw.cell (p := ⟨wa.heap.size, 5, none⟩) la).trans a5; have v6 := (hSw.cell (p := ⟨wa.heap.size, 6, none⟩) la).trans a6; have v7 := (hSw.cell (p := ⟨wa.heap.size, 7, none⟩) la).trans a7; have v8 := (hSw.cell (p := ⟨wa.heap.size, 8, none⟩) la).trans a8; have v9 := (hSw.cell (p := ⟨wa.heap.size, 9, none⟩) la).trans a9; have v10 := (hSw.cell (p := ⟨wa.heap.size, 10, none⟩) la).trans a10; have v11 := (hSw.cell (p := ⟨wa.heap.size, 11, none⟩) la).trans a11; have v12 := (hSw.cell (p := ⟨wa.heap.size, 12, none⟩) la).trans a12; go_simp; with_reducible rfl))
              | refine wpAnyH_take (i := 18) (v := undef) rfl (by kernel_rfl) (by kernel_rfl) (by kernel_rfl) (fun _ _ _ h => h) (Or.inr ⟨by rfl, rfl⟩) hHeld ?_
            try simp only [Act.put, List.getElem_toArray, List.getElem_cons_succ, List.getElem_cons_zero, List.setIfInBounds_toArray, List.set_cons_zero, List.set_cons_succ]
            refine wpAnyH_ready (rs := [19]) (by kernel_rfl) (by simp) ?_
            refine AllReadyH.cons rfl (fun K hK => ?_) AllReadyH.nil
            go_simp; refine (Over_any h5 _).mono ?_; rw [HOV.out]; rintro e wx ⟨rfl, hbx⟩; replace hS := hS.trans (hbx.mono hS.size); clear hbx; try go_wp2_with fail
            refine hK.out _ _ ?_ (fun hHeld => ?_)
            · (try dsimp only); first | done | ((first | exact hS | skip))
            clear hK K
            try simp only [Act.put, List.getElem_toArray, List.getElem_cons_succ, List.getElem_cons_zero, List.setIfInBounds_toArray, List.set_cons_zero, List.set_cons_succ]
            first
              | (refine wpAnyH_take (i := 20) (v := ?_) rfl (by kernel_rfl) (by kernel_rfl) (by kernel_rfl) (fun _ _ _ h => h) (Or.inl ⟨by rfl, ?_⟩) hHeld ?_; rotate_left; (intro wq hSw; (try dsimp only at hSw); go_simp; done))
              | (refine wpAnyH_take (i := 20) (v := ?_) rfl (by kernel_rfl) (by kernel_rfl) (by kernel_rfl) (fun _ _ _ h => h) (Or.inl ⟨by rfl, ?_⟩) hHeld ?_; rotate_left; (intro wq hSw; (try dsimp only at hSw); go_simp; with_reducible rfl))
              | refine wpAnyH_take (i := 20) (v := undef) rfl (by kernel_rfl) (by kernel_rfl) (by kernel_rfl) (fun _ _ _ h => h) (Or.inr ⟨by rfl, rfl⟩) hHeld ?_
            try simp only [Act.put, List.getElem_toArray, List.getElem_cons_succ, List.getElem_cons_zero, List.setIfInBounds_toArray, List.set_cons_zero, List.set_cons_succ]
            first
              | (refine wpAnyH_take (i := 21) (v := ?_) rfl (by kernel_rfl) (by kernel_rfl) (by kernel_rfl) (fun _ _ _ h => h) (Or.inl ⟨by rfl, ?_⟩) hHeld ?_; rotate_left; (intro wq hSw; (try dsimp only at hSw); go_simp; done))
              | (refine wpAnyH_take (i := 21) (v := ?_) rfl (by kernel_rfl) (by kernel_rfl) (by kernel_rfl) (fun _ _ _ h => h) (Or.inl ⟨by rfl, ?_⟩) hHeld ?_; rotate_left; (intro wq hSw; (try dsimp only at hSw); go_simp; with_reducible rfl))
              | refine wpAnyH_take (i := 21) (v := undef) rfl (by kernel_rfl) (by kernel_rfl) (by kernel_rfl) (fun _ _ _ h => h) (Or.inr ⟨by rfl, rfl⟩) hHeld ?_
            try simp only [Act.put, List.getElem_toArray, List.getElem_cons_succ, List.getElem_cons_zero, List.setIfInBounds_toArray, List.set_cons_zero, List.set_cons_succ]
            first
              | (refine wpAnyH_take (i := 22) (v := ?_) rfl (by kernel_rfl) (by kernel_rfl) (by kernel_rfl) (fun _ _ _ h => h) (Or.inl ⟨by rfl, ?_⟩) hHeld ?_; rotate_left; (intro wq hSw; (try dsimp only at hSw); go_simp; done))
              | (refine wpAnyH_take (i := 22) (v := ?_) rfl (by kernel_rfl) (by kernel_rfl) (by kernel_rfl) (fun _ _ _ h => h) (Or.inl ⟨by rfl, ?_⟩) hHeld ?_; rotate_left; (intro wq hSw; (try dsimp only at hSw); go_simp; with_reducible rfl))
              | refine wpAnyH_take (i := 22) (v := undef) rfl (by kernel_rfl) (by kernel_rfl) (by kernel_rfl) (fun _ _ _ h => h) (Or.inr ⟨by rfl, rfl⟩) hHeld ?_
            try simp only [Act.put, List.getElem_toArray, List.getElem_cons_succ, List.getElem_cons_zero, List.setIfInBounds_toArray, List.set_cons_zero, List.set_cons_succ]
            refine wpAnyH_ready (rs := [23]) (by kernel_rfl) (by simp) ?_
            refine AllReadyH.cons rfl (fun K hK => ?_) AllReadyH.nil
            go_simp; go_at_call 7; refine (wakes18_any _).mono ?_; rintro e wx ⟨rfl, hbx⟩; replace hS := hS.trans (hbx.mono hS.size); clear hbx; try go_wp2_with fail
            refine hK.out _ _ ?_ (fun hHeld => ?_)
            · (try dsimp only); first | done | ((first | exact hS | skip))
            clear hK K
            try simp only [Act.put, List.getElem_toArray, List.getElem_cons_succ, List.getElem_cons_zero, List.setIfInBounds_toArray, List.set_cons_zero, List.set_cons_succ]
            first
              | (refine wpAnyH_take (i := 24) (v := ?_) rfl (by kernel_rfl) (by kernel_rfl) (by kernel_rfl) (fun _ _ _ h => h) (Or.inl ⟨by rfl, ?_⟩) hHeld ?_; rotate_left; (intro wq hSw; (try dsimp only at hSw); go_simp; done))
              | (refine wpAnyH_take (i := 24) (v := ?_) rfl (by kernel_rfl) (by kernel_rfl) (by kernel_rfl) (fun _ _ _ h => h) (Or.inl ⟨by rfl, ?_⟩) hHeld ?_; rotate_left; (intro wq hSw; (try dsimp only at hSw); go_simp; with_reducible rfl))
              | refine wpAnyH_take (i := 24) (v := undef) rfl (by kernel_rfl) (by kernel_rfl) (by kernel_rfl) (fun _ _ _ h => h) (Or.inr ⟨by rfl, rfl⟩) hHeld ?_
            try simp only [Act.put, List.getElem_toArray, List.getElem_cons_succ, List.getElem_cons_zero, List.setIfInBounds_toArray, List.set_cons_zero, List.set_cons_succ]
            first
              | (refine wpAnyH_take (i := 25) (v := ?_) rfl (by kernel_rfl) (by kernel_rfl) (by kernel_rfl) (fun _ _ _ h => h) (Or.inl ⟨by rfl, ?_⟩) hHeld ?_; rotate_left; (intro wq hSw; (try dsimp only at hSw); go_simp; done))
              | (refine wpAnyH_take (i := 25) (v := ?_) rfl (by kernel_rfl) (by kernel_rfl) (by kernel_rfl) (fun _ _ _ h => h) (Or.inl ⟨by rfl, ?_⟩) hHeld ?_; rotate_left; (intro wq hSw; (try dsimp only at hSw); go_simp; with_reducible rfl))
              | refine wpAnyH_take (i := 25) (v := undef) rfl (by kernel_rfl) (by kernel_rfl) (by kernel_rfl) (fun _ _ _ h => h) (Or.inr ⟨by rfl, rfl⟩) hHeld ?_
            try simp only [Act.put, List.getElem_toArray, List.getElem_cons_succ, List.getElem_cons_zero, List.setIfInBounds_toArray, List.set_cons_zero, List.set_cons_succ]
            refine wpAnyH_done (by kernel_rfl) ?_ _
            have hfin := hBb.trans (hS.mono hBb.size); go_wp2_with fail; go_ret; exact ⟨rfl, hfin⟩
end Go.Proofs.Ytfahmfaakjnpcaa
