/-
  Parts of the proof of the statement NamerTells. Conditions: as each states.
-/
import Derived.Test.YtfahmfaakjnpcaaNamerTellsPart32
import Derived.Test.YtfahmfaakjnpcaaNamerTellsPart21
namespace Go.Proofs.Ytfahmfaakjnpcaa
set_option linter.unusedVariables false
set_option linter.unusedSimpArgs false
open Go.RowKit Go.Shelf

/-- Behind the statement's first test. -/
def TlPre (w : World) (h o : NmH) (fs fo : List Fx) (m : Lt) (s : Value) (wx : World) : Prop :=
  ∃ g : Bool, s = .bool g ∧ (g = false → smallNm h fs ∧ smallNm o fo ∧ m.f ≤ 1099511627776) ∧ NmRow wx w.heap.size h ∧ NmRow wx (w.heap.size + 1) o ∧ LtAt wx (w.heap.size + 1 + 1) m ∧ Below w.heap.size w wx
set_option maxRecDepth 100000 in
set_option maxHeartbeats 8000000 in
theorem NamerTells_walk (x y : NmArg) (i : Int) (m : Lt) (ck nx : Int) (w : World) (hx : okNm w x) (hy : okNm w y) (hwk : (Lit.int .i8 m.k).wf = true) :
    Calls Try.prog 6 #[.agg #[.int .i64 x.1.id, .int .i64 x.1.cf.1, .int .i64 x.1.cf.2.1, .int .i64 x.1.cf.2.2.1, .int .i64 x.1.cf.2.2.2.1, .int .i64 x.1.cf.2.2.2.2.1, .int .i64 x.1.cf.2.2.2.2.2.1, .int .i64 x.1.cf.2.2.2.2.2.2.1, .int .i64 x.1.cf.2.2.2.2.2.2.2.1, .int .i64 x.1.cf.2.2.2.2.2.2.2.2, .slice x.1.kA x.1.kn x.1.kc, .slice x.1.fA x.1.fn x.1.fc, .bool x.1.over], .agg #[.int .i64 y.1.id, .int .i64 y.1.cf.1, .int .i64 y.1.cf.2.1, .int .i64 y.1.cf.2.2.1, .int .i64 y.1.cf.2.2.2.1, .int .i64 y.1.cf.2.2.2.2.1, .int .i64 y.1.cf.2.2.2.2.2.1, .int .i64 y.1.cf.2.2.2.2.2.2.1, .int .i64 y.1.cf.2.2.2.2.2.2.2.1, .int .i64 y.1.cf.2.2.2.2.2.2.2.2, .slice y.1.kA y.1.kn y.1.kc, .slice y.1.fA y.1.fn y.1.fc, .bool y.1.over], .int .i64 i, .agg #[.int .i8 m.k, .int .i64 m.f, .int .i64 m.n, .int .i64 m.s, .string m.t, .int .i64 m.e], .int .i64 ck, .int .i64 nx] w fun e w' => e = .returned (.bool true) ∧ Below w.heap.size w w' := by
  obtain ⟨h, l, fs⟩ := x
  obtain ⟨hN, hkn, hfn, hpn⟩ := hx
  obtain ⟨o, lo, fo⟩ := y
  obtain ⟨hM, okn, ofn, opn⟩ := hy
  simp only at hN hkn hfn hpn hM okn ofn opn
  have hA : NmRow (((w.alloc (.cells #[.int .i64 h.id, .int .i64 h.cf.1, .int .i64 h.cf.2.1, .int .i64 h.cf.2.2.1, .int .i64 h.cf.2.2.2.1, .int .i64 h.cf.2.2.2.2.1, .int .i64 h.cf.2.2.2.2.2.1, .int .i64 h.cf.2.2.2.2.2.2.1, .int .i64 h.cf.2.2.2.2.2.2.2.1, .int .i64 h.cf.2.2.2.2.2.2.2.2, .slice h.kA h.kn h.kc, .slice h.fA h.fn h.fc, .bool h.over] 29)).alloc (.cells #[.int .i64 o.id, .int .i64 o.cf.1, .int .i64 o.cf.2.1, .int .i64 o.cf.2.2.1, .int .i64 o.cf.2.2.2.1, .int .i64 o.cf.2.2.2.2.1, .int .i64 o.cf.2.2.2.2.2.1, .int .i64 o.cf.2.2.2.2.2.2.1, .int .i64 o.cf.2.2.2.2.2.2.2.1, .int .i64 o.cf.2.2.2.2.2.2.2.2, .slice o.kA o.kn o.kc, .slice o.fA o.fn o.fc, .bool o.over] 29)).alloc (.cells #[.int .i8 m.k, .int .i64 m.f, .int .i64 m.n, .int .i64 m.s, .string m.t, .int .i64 m.e] 40)) w.heap.size h :=
    (Below.heap_alloc _ _ _ (by simp; omega)).trans ((Below.heap_alloc _ _ _ (by simp)).trans (heap_alloc_new w _))
  have hO : NmRow (((w.alloc (.cells #[.int .i64 h.id, .int .i64 h.cf.1, .int .i64 h.cf.2.1, .int .i64 h.cf.2.2.1, .int .i64 h.cf.2.2.2.1, .int .i64 h.cf.2.2.2.2.1, .int .i64 h.cf.2.2.2.2.2.1, .int .i64 h.cf.2.2.2.2.2.2.1, .int .i64 h.cf.2.2.2.2.2.2.2.1, .int .i64 h.cf.2.2.2.2.2.2.2.2, .slice h.kA h.kn h.kc, .slice h.fA h.fn h.fc, .bool h.over] 29)).alloc (.cells #[.int .i64 o.id, .int .i64 o.cf.1, .int .i64 o.cf.2.1, .int .i64 o.cf.2.2.1, .int .i64 o.cf.2.2.2.1, .int .i64 o.cf.2.2.2.2.1, .int .i64 o.cf.2.2.2.2.2.1, .int .i64 o.cf.2.2.2.2.2.2.1, .int .i64 o.cf.2.2.2.2.2.2.2.1, .int .i64 o.cf.2.2.2.2.2.2.2.2, .slice o.kA o.kn o.kc, .slice o.fA o.fn o.fc, .bool o.over] 29)).alloc (.cells #[.int .i8 m.k, .int .i64 m.f, .int .i64 m.n, .int .i64 m.s, .string m.t, .int .i64 m.e] 40)) (w.heap.size + 1) o := by
    have := heap_alloc_new (w.alloc (.cells #[.int .i64 h.id, .int .i64 h.cf.1, .int .i64 h.cf.2.1, .int .i64 h.cf.2.2.1, .int .i64 h.cf.2.2.2.1, .int .i64 h.cf.2.2.2.2.1, .int .i64 h.cf.2.2.2.2.2.1, .int .i64 h.cf.2.2.2.2.2.2.1, .int .i64 h.cf.2.2.2.2.2.2.2.1, .int .i64 h.cf.2.2.2.2.2.2.2.2, .slice h.kA h.kn h.kc, .slice h.fA h.fn h.fc, .bool h.over] 29)) (.cells #[.int .i64 o.id, .int .i64 o.cf.1, .int .i64 o.cf.2.1, .int .i64 o.cf.2.2.1, .int .i64 o.cf.2.2.2.1, .int .i64 o.cf.2.2.2.2.1, .int .i64 o.cf.2.2.2.2.2.1, .int .i64 o.cf.2.2.2.2.2.2.1, .int .i64 o.cf.2.2.2.2.2.2.2.1, .int .i64 o.cf.2.2.2.2.2.2.2.2, .slice o.kA o.kn o.kc, .slice o.fA o.fn o.fc, .bool o.over] 29)
    rw [World.size_alloc] at this
    exact (Below.heap_alloc _ _ _ (by simp)).trans this
  have hL : LtAt (((w.alloc (.cells #[.int .i64 h.id, .int .i64 h.cf.1, .int .i64 h.cf.2.1, .int .i64 h.cf.2.2.1, .int .i64 h.cf.2.2.2.1, .int .i64 h.cf.2.2.2.2.1, .int .i64 h.cf.2.2.2.2.2.1, .int .i64 h.cf.2.2.2.2.2.2.1, .int .i64 h.cf.2.2.2.2.2.2.2.1, .int .i64 h.cf.2.2.2.2.2.2.2.2, .slice h.kA h.kn h.kc, .slice h.fA h.fn h.fc, .bool h.over] 29)).alloc (.cells #[.int .i64 o.id, .int .i64 o.cf.1, .int .i64 o.cf.2.1, .int .i64 o.cf.2.2.1, .int .i64 o.cf.2.2.2.1, .int .i64 o.cf.2.2.2.2.1, .int .i64 o.cf.2.2.2.2.2.1, .int .i64 o.cf.2.2.2.2.2.2.1, .int .i64 o.cf.2.2.2.2.2.2.2.1, .int .i64 o.cf.2.2.2.2.2.2.2.2, .slice o.kA o.kn o.kc, .slice o.fA o.fn o.fc, .bool o.over] 29)).alloc (.cells #[.int .i8 m.k, .int .i64 m.f, .int .i64 m.n, .int .i64 m.s, .string m.t, .int .i64 m.e] 40)) (w.heap.size + 1 + 1) m := by
    have := heap_alloc_new ((w.alloc (.cells #[.int .i64 h.id, .int .i64 h.cf.1, .int .i64 h.cf.2.1, .int .i64 h.cf.2.2.1, .int .i64 h.cf.2.2.2.1, .int .i64 h.cf.2.2.2.2.1, .int .i64 h.cf.2.2.2.2.2.1, .int .i64 h.cf.2.2.2.2.2.2.1, .int .i64 h.cf.2.2.2.2.2.2.2.1, .int .i64 h.cf.2.2.2.2.2.2.2.2, .slice h.kA h.kn h.kc, .slice h.fA h.fn h.fc, .bool h.over] 29)).alloc (.cells #[.int .i64 o.id, .int .i64 o.cf.1, .int .i64 o.cf.2.1, .int .i64 o.cf.2.2.1, .int .i64 o.cf.2.2.2.1, .int .i64 o.cf.2.2.2.2.1, .int .i64 o.cf.2.2.2.2.2.1, .int .i64 o.cf.2.2.2.2.2.2.1, .int .i64 o.cf.2.2.2.2.2.2.2.1, .int .i64 o.cf.2.2.2.2.2.2.2.2, .slice o.kA o.kn o.kc, .slice o.fA o.fn o.fc, .bool o.over] 29)) (.cells #[.int .i8 m.k, .int .i64 m.f, .int .i64 m.n, .int .i64 m.s, .string m.t, .int .i64 m.e] 40)
    rw [World.size_alloc, World.size_alloc] at this
    exact this
  have hB := ((Below.new_ w (.cells #[.int .i64 h.id, .int .i64 h.cf.1, .int .i64 h.cf.2.1, .int .i64 h.cf.2.2.1, .int .i64 h.cf.2.2.2.1, .int .i64 h.cf.2.2.2.2.1, .int .i64 h.cf.2.2.2.2.2.1, .int .i64 h.cf.2.2.2.2.2.2.1, .int .i64 h.cf.2.2.2.2.2.2.2.1, .int .i64 h.cf.2.2.2.2.2.2.2.2, .slice h.kA h.kn h.kc, .slice h.fA h.fn h.fc, .bool h.over] 29)).alloc (by simp) (.cells #[.int .i64 o.id, .int .i64 o.cf.1, .int .i64 o.cf.2.1, .int .i64 o.cf.2.2.1, .int .i64 o.cf.2.2.2.1, .int .i64 o.cf.2.2.2.2.1, .int .i64 o.cf.2.2.2.2.2.1, .int .i64 o.cf.2.2.2.2.2.2.1, .int .i64 o.cf.2.2.2.2.2.2.2.1, .int .i64 o.cf.2.2.2.2.2.2.2.2, .slice o.kA o.kn o.kc, .slice o.fA o.fn o.fc, .bool o.over] 29)).alloc (by simp; omega) (.cells #[.int .i8 m.k, .int .i64 m.f, .int .i64 m.n, .int .i64 m.s, .string m.t, .int .i64 m.e] 40)
  go_enter Try.func6, Try.ntmps6
  go_upto_region 1 with fail
  generalize (((w.alloc (.cells #[.int .i64 h.id, .int .i64 h.cf.1, .int .i64 h.cf.2.1, .int .i64 h.cf.2.2.1, .int .i64 h.cf.2.2.2.1, .int .i64 h.cf.2.2.2.2.1, .int .i64 h.cf.2.2.2.2.2.1, .int .i64 h.cf.2.2.2.2.2.2.1, .int .i64 h.cf.2.2.2.2.2.2.2.1, .int .i64 h.cf.2.2.2.2.2.2.2.2, .slice h.kA h.kn h.kc, .slice h.fA h.fn h.fc, .bool h.over] 29)).alloc (.cells #[.int .i64 o.id, .int .i64 o.cf.1, .int .i64 o.cf.2.1, .int .i64 o.cf.2.2.1, .int .i64 o.cf.2.2.2.1, .int .i64 o.cf.2.2.2.2.1, .int .i64 o.cf.2.2.2.2.2.1, .int .i64 o.cf.2.2.2.2.2.2.1, .int .i64 o.cf.2.2.2.2.2.2.2.1, .int .i64 o.cf.2.2.2.2.2.2.2.2, .slice o.kA o.kn o.kc, .slice o.fA o.fn o.fc, .bool o.over] 29)).alloc (.cells #[.int .i8 m.k, .int .i64 m.f, .int .i64 m.n, .int .i64 m.s, .string m.t, .int .i64 m.e] 40)) = W at hA hO hL hB ⊢
  go_cut [27] (fun s27 wx => TlPre w h o fs fo m s27 wx)
  case first =>
    obtain ⟨a0, a1, a2, a3, a4, a5, a6, a7, a8, a9, a10, a11, a12⟩ := hA.cells
    have hN1 : NmIs W W.heap.size h l fs := (hN.below hB).more hB.size
    go_wp2_with fail
    refine (Great18_any h l fs _ hN1 hfn hkn hpn).mono ?_
    rintro e w2 ⟨b, rfl, hb, hb2⟩
    replace hA : NmRow w2 w.heap.size h := (hb2.block _ hA.lt).trans hA
    replace hO : NmRow w2 (w.heap.size + 1) o := (hb2.block _ hO.lt).trans hO
    replace hL := hL.below hb2 hL.lt
    replace hB := hB.trans (hb2.mono hB.size)
    clear a0 a1 a2 a3 a4 a5 a6 a7 a8 a9 a10 a11 a12 hb2 hN1
    cases b
    case true =>
      clear hb
      go_wp2_with fail
      go_meet
      exact ⟨true, rfl, (by intro h; cases h), hA, hO, hL, hB⟩
    case false =>
      have HS := Lib.hid (hb rfl)
      clear hb
      obtain ⟨a0, a1, a2, a3, a4, a5, a6, a7, a8, a9, a10, a11, a12⟩ := hO.cells
      have hN1 : NmIs w2 w2.heap.size o lo fo := (hM.below hB).more hB.size
      go_wp2_with fail
      refine (Great18_any o lo fo _ hN1 ofn okn opn).mono ?_
      rintro e w3 ⟨b, rfl, hb, hb2⟩
      replace hA : NmRow w3 w.heap.size h := (hb2.block _ hA.lt).trans hA
      replace hO : NmRow w3 (w.heap.size + 1) o := (hb2.block _ hO.lt).trans hO
      replace hL := hL.below hb2 hL.lt
      replace hB := hB.trans (hb2.mono hB.size)
      clear a0 a1 a2 a3 a4 a5 a6 a7 a8 a9 a10 a11 a12 hb2 hN1
      cases b
      case true =>
        clear hb
        go_wp2_with fail
        go_meet
        exact ⟨true, rfl, (by intro h; cases h), hA, hO, hL, hB⟩
      case false =>
        have HO := Lib.hid (hb rfl)
        clear hb
        obtain ⟨m0, m1, m2, m3, m4, m5⟩ := hL.cells
        have hbn := Below.new_ w3 (.cells #[.int .i8 m.k, .int .i64 m.f, .int .i64 m.n, .int .i64 m.s, .string m.t, .int .i64 m.e] 40)
        go_wp2_with fail
        refine (long_any w3.heap.size m _ (LtAt.new w3 m)).mono ?_
        rintro e w4 ⟨g, rfl, hg, hb3⟩
        have HG := Lib.hid hg
        clear hg
        have hbx := hbn.trans (hb3.mono hbn.size)
        replace hL := hL.below hbx hL.lt
        replace hA : NmRow w4 w.heap.size h := (hbx.block _ hA.lt).trans hA
        replace hO : NmRow w4 (w.heap.size + 1) o := (hbx.block _ hO.lt).trans hO
        replace hB := hB.trans (hbx.mono hB.size)
        clear m0 m1 m2 m3 m4 m5 hbn hb3 hbx
        go_wp2_with fail
        go_meet
        exact ⟨g, rfl, fun e => ⟨HS.out, HO.out, HG.out e⟩, hA, hO, hL, hB⟩
  case rest =>
    obtain ⟨g, rfl, hpre, hA, hO, hL, hB⟩ := hcut
    cases g
    case true =>
      go_wp2_with fail
      refine (wakes18_any _).mono ?_
      rintro e w9 ⟨rfl, hb9⟩
      go_wp2_with fail
      go_ret
      exact ⟨rfl, hB.trans (hb9.mono hB.size)⟩
    case false =>
      have HS := Lib.hid (hpre rfl)
      clear hpre
      have hf1 : fewN (absN h l fs) := HS.out.1.few hN
      have hf2 : fewN (absN o lo fo) := HS.out.2.1.few hM
      have hok : OkN (absN h l fs) := hf1.ok
      obtain ⟨t1, t2⟩ := hf1.take i m ck nx
      generalize htk : takeN (absN h l fs) i m ck nx = TK at t1 t2
      have HTK := Lib.hid htk
      have HT := Lib.hid (And.intro t1 t2)
      have HF2 := Lib.hid hf2
      have hra : ∀ p ∈ fs, ∀ r ∈ p.2, r ≤ 1099511627776 := fun p hp => (HS.out.1.2.1 p hp).2
      clear htk t1 t2 hf1 hf2
      replace hN : NmIs wc wc.heap.size h l fs := (hN.below hB).more hB.size
      replace hM : NmIs wc wc.heap.size o lo fo := (hM.below hB).more hB.size
      obtain ⟨a0, a1, a2, a3, a4, a5, a6, a7, a8, a9, a10, a11, a12⟩ := hA.cells
      obtain ⟨m0, m1, m2, m3, m4, m5⟩ := hL.cells
      go_wp2_with fail
      refine (take_out h l fs i m ck nx _ hN hok hwk).mono ?_
      rw [HTK.out]
      rintro e w4 ⟨h4, l4, fs4, A4, n4, c4, d4, rfl, hN4, hD4, ha4, hd4, hb4⟩
      have HA4 := Lib.hid ha4
      have HD4 := Lib.hid hd4
      clear a0 a1 a2 a3 a4 a5 a6 a7 a8 a9 a10 a11 a12 m0 m1 m2 m3 m4 m5 ha4 hd4
      have hn4 := Below.new_ w4 (.cells #[.int .i64 h4.id, .int .i64 h4.cf.1, .int .i64 h4.cf.2.1, .int .i64 h4.cf.2.2.1, .int .i64 h4.cf.2.2.2.1, .int .i64 h4.cf.2.2.2.2.1, .int .i64 h4.cf.2.2.2.2.2.1, .int .i64 h4.cf.2.2.2.2.2.2.1, .int .i64 h4.cf.2.2.2.2.2.2.2.1, .int .i64 h4.cf.2.2.2.2.2.2.2.2, .slice h4.kA h4.kn h4.kc, .slice h4.fA h4.fn h4.fc, .bool h4.over] 29)
      have hR4 : NmRow (w4.alloc (.cells #[.int .i64 h4.id, .int .i64 h4.cf.1, .int .i64 h4.cf.2.1, .int .i64 h4.cf.2.2.1, .int .i64 h4.cf.2.2.2.1, .int .i64 h4.cf.2.2.2.2.1, .int .i64 h4.cf.2.2.2.2.2.1, .int .i64 h4.cf.2.2.2.2.2.2.1, .int .i64 h4.cf.2.2.2.2.2.2.2.1, .int .i64 h4.cf.2.2.2.2.2.2.2.2, .slice h4.kA h4.kn h4.kc, .slice h4.fA h4.fn h4.fc, .bool h4.over] 29)) w4.heap.size h4 := heap_alloc_new w4 _
      have hbb := hb4.trans (hn4.mono hb4.size)
      replace hA : NmRow (w4.alloc (.cells #[.int .i64 h4.id, .int .i64 h4.cf.1, .int .i64 h4.cf.2.1, .int .i64 h4.cf.2.2.1, .int .i64 h4.cf.2.2.2.1, .int .i64 h4.cf.2.2.2.2.1, .int .i64 h4.cf.2.2.2.2.2.1, .int .i64 h4.cf.2.2.2.2.2.2.1, .int .i64 h4.cf.2.2.2.2.2.2.2.1, .int .i64 h4.cf.2.2.2.2.2.2.2.2, .slice h4.kA h4.kn h4.kc, .slice h4.fA h4.fn h4.fc, .bool h4.over] 29)) w.heap.size h := (hbb.block _ hA.lt).trans hA
      replace hO : NmRow (w4.alloc (.cells #[.int .i64 h4.id, .int .i64 h4.cf.1, .int .i64 h4.cf.2.1, .int .i64 h4.cf.2.2.1, .int .i64 h4.cf.2.2.2.1, .int .i64 h4.cf.2.2.2.2.1, .int .i64 h4.cf.2.2.2.2.2.1, .int .i64 h4.cf.2.2.2.2.2.2.1, .int .i64 h4.cf.2.2.2.2.2.2.2.1, .int .i64 h4.cf.2.2.2.2.2.2.2.2, .slice h4.kA h4.kn h4.kc, .slice h4.fA h4.fn h4.fc, .bool h4.over] 29)) (w.heap.size + 1) o := (hbb.block _ hO.lt).trans hO
      replace hL := hL.below hbb hL.lt
      replace hB := hB.trans (hbb.mono hB.size)
      replace hN := hN.next hbb
      replace hM := hM.next hbb
      replace hN4 := hN4.next hn4
      replace hD4 := hD4.next hn4
      go_upto_region 4 with fail
      clear hbb hb4 hn4
      generalize h4e : w4.heap.size = g4 at *
      generalize (w4.alloc (.cells #[.int .i64 h4.id, .int .i64 h4.cf.1, .int .i64 h4.cf.2.1, .int .i64 h4.cf.2.2.1, .int .i64 h4.cf.2.2.2.1, .int .i64 h4.cf.2.2.2.2.1, .int .i64 h4.cf.2.2.2.2.2.1, .int .i64 h4.cf.2.2.2.2.2.2.1, .int .i64 h4.cf.2.2.2.2.2.2.2.1, .int .i64 h4.cf.2.2.2.2.2.2.2.2, .slice h4.kA h4.kn h4.kc, .slice h4.fA h4.fn h4.fc, .bool h4.over] 29)) = V4 at hR4 hA hO hL hB hN hM hN4 hD4 ⊢
      obtain ⟨a0, a1, a2, a3, a4, a5, a6, a7, a8, a9, a10, a11, a12⟩ := hA.cells
      obtain ⟨m0, m1, m2, m3, m4, m5⟩ := hL.cells
      go_wp2_with fail
      refine (rTake_any h l fs i m ck nx _ hN hok HS.out.2.2 hra).mono ?_
      rw [HTK.out]
      rintro e w5 ⟨h5, l5, fs5, A5, n5, c5, d5, rfl, hN5, hD5, ha5, hd5, hb5⟩
      have HA5 := Lib.hid ha5
      have HD5 := Lib.hid hd5
      clear a0 a1 a2 a3 a4 a5 a6 a7 a8 a9 a10 a11 a12 m0 m1 m2 m3 m4 m5 ha5 hd5
      have hn5 := Below.new_ w5 (.cells #[.int .i64 h5.id, .int .i64 h5.cf.1, .int .i64 h5.cf.2.1, .int .i64 h5.cf.2.2.1, .int .i64 h5.cf.2.2.2.1, .int .i64 h5.cf.2.2.2.2.1, .int .i64 h5.cf.2.2.2.2.2.1, .int .i64 h5.cf.2.2.2.2.2.2.1, .int .i64 h5.cf.2.2.2.2.2.2.2.1, .int .i64 h5.cf.2.2.2.2.2.2.2.2, .slice h5.kA h5.kn h5.kc, .slice h5.fA h5.fn h5.fc, .bool h5.over] 29)
      have hR5 : NmRow (w5.alloc (.cells #[.int .i64 h5.id, .int .i64 h5.cf.1, .int .i64 h5.cf.2.1, .int .i64 h5.cf.2.2.1, .int .i64 h5.cf.2.2.2.1, .int .i64 h5.cf.2.2.2.2.1, .int .i64 h5.cf.2.2.2.2.2.1, .int .i64 h5.cf.2.2.2.2.2.2.1, .int .i64 h5.cf.2.2.2.2.2.2.2.1, .int .i64 h5.cf.2.2.2.2.2.2.2.2, .slice h5.kA h5.kn h5.kc, .slice h5.fA h5.fn h5.fc, .bool h5.over] 29)) w5.heap.size h5 := heap_alloc_new w5 _
      have hbb := hb5.trans (hn5.mono hb5.size)
      replace hA : NmRow (w5.alloc (.cells #[.int .i64 h5.id, .int .i64 h5.cf.1, .int .i64 h5.cf.2.1, .int .i64 h5.cf.2.2.1, .int .i64 h5.cf.2.2.2.1, .int .i64 h5.cf.2.2.2.2.1, .int .i64 h5.cf.2.2.2.2.2.1, .int .i64 h5.cf.2.2.2.2.2.2.1, .int .i64 h5.cf.2.2.2.2.2.2.2.1, .int .i64 h5.cf.2.2.2.2.2.2.2.2, .slice h5.kA h5.kn h5.kc, .slice h5.fA h5.fn h5.fc, .bool h5.over] 29)) w.heap.size h := (hbb.block _ hA.lt).trans hA
      replace hO : NmRow (w5.alloc (.cells #[.int .i64 h5.id, .int .i64 h5.cf.1, .int .i64 h5.cf.2.1, .int .i64 h5.cf.2.2.1, .int .i64 h5.cf.2.2.2.1, .int .i64 h5.cf.2.2.2.2.1, .int .i64 h5.cf.2.2.2.2.2.1, .int .i64 h5.cf.2.2.2.2.2.2.1, .int .i64 h5.cf.2.2.2.2.2.2.2.1, .int .i64 h5.cf.2.2.2.2.2.2.2.2, .slice h5.kA h5.kn h5.kc, .slice h5.fA h5.fn h5.fc, .bool h5.over] 29)) (w.heap.size + 1) o := (hbb.block _ hO.lt).trans hO
      replace hR4 : NmRow (w5.alloc (.cells #[.int .i64 h5.id, .int .i64 h5.cf.1, .int .i64 h5.cf.2.1, .int .i64 h5.cf.2.2.1, .int .i64 h5.cf.2.2.2.1, .int .i64 h5.cf.2.2.2.2.1, .int .i64 h5.cf.2.2.2.2.2.1, .int .i64 h5.cf.2.2.2.2.2.2.1, .int .i64 h5.cf.2.2.2.2.2.2.2.1, .int .i64 h5.cf.2.2.2.2.2.2.2.2, .slice h5.kA h5.kn h5.kc, .slice h5.fA h5.fn h5.fc, .bool h5.over] 29)) g4 h4 := (hbb.block _ hR4.lt).trans hR4
      replace hL := hL.below hbb hL.lt
      replace hB := hB.trans (hbb.mono hB.size)
      replace hN := hN.next hbb
      replace hM := hM.next hbb
      replace hN4 := hN4.next hbb
      replace hD4 := hD4.next hbb
      replace hN5 := hN5.next hn5
      replace hD5 := hD5.next hn5
      go_upto_region 5 with fail
      clear hbb hb5 hn5
      generalize h5e : w5.heap.size = g5 at *
      generalize (w5.alloc (.cells #[.int .i64 h5.id, .int .i64 h5.cf.1, .int .i64 h5.cf.2.1, .int .i64 h5.cf.2.2.1, .int .i64 h5.cf.2.2.2.1, .int .i64 h5.cf.2.2.2.2.1, .int .i64 h5.cf.2.2.2.2.2.1, .int .i64 h5.cf.2.2.2.2.2.2.1, .int .i64 h5.cf.2.2.2.2.2.2.2.1, .int .i64 h5.cf.2.2.2.2.2.2.2.2, .slice h5.kA h5.kn h5.kc, .slice h5.fA h5.fn h5.fc, .bool h5.over] 29)) = V5 at hR5 hR4 hA hO hL hB hN hM hN4 hD4 hN5 hD5 ⊢
      obtain rfl : n4 = n5 := dds_len hD4 hD5 (HD4.out.trans HD5.out.symm)
      have hn60 := absD_few hD4 HD4.out HT.out.2
      have hs1 : Hid (sameN (absN h4 l4 fs4) (absN h5 l5 fs5) = true) := sameN_of (HA4.out.trans HA5.out.symm)
      have hs2 : Hid (sameN (absN ⟨nx, h.cf, none, 0, 0, none, 0, 0, false⟩ [] []) (absN ⟨nx, h.cf, none, 0, 0, none, 0, 0, false⟩ [] []) = true) := sameN_self _
      have hk4 : OkN (absN h4 l4 fs4) := by rw [HA4.out]; exact HT.out.1
      have hk5 : OkN (absN h5 l5 fs5) := by rw [HA5.out]; exact HT.out.1
      obtain ⟨r1, r2, r3⟩ := hk4.at_ hN4
      obtain ⟨v1, v2, v3⟩ := hk5.at_ hN5
      have la := hA.lt
      have l4' := hR4.lt
      have l5' := hR5.lt
      have hS : Below V5.heap.size V5 V5.drew := (Below.refl _ _).drew
      clear HA4 HA5 hk4 hk5
      go_cut [68] (fun s68 wx => s68 = .bool false ∧ Below V5.heap.size V5 wx)
      case first =>
        refine wp_region_held_drew (S := (fun wx => Below V5.heap.size V5 wx)) (by kernel_rfl) ?_ (fun hHeld => ?_)
        · (try dsimp only); first | done | ((first | exact hS | skip))
        refine wpAnyH_take (i := 0) (v := (.agg #[.int .i64 h4.id, .int .i64 h4.cf.1, .int .i64 h4.cf.2.1, .int .i64 h4.cf.2.2.1, .int .i64 h4.cf.2.2.2.1, .int .i64 h4.cf.2.2.2.2.1, .int .i64 h4.cf.2.2.2.2.2.1, .int .i64 h4.cf.2.2.2.2.2.2.1, .int .i64 h4.cf.2.2.2.2.2.2.2.1, .int .i64 h4.cf.2.2.2.2.2.2.2.2, .slice h4.kA h4.kn h4.kc, .slice h4.fA h4.fn h4.fc, .bool h4.over])) rfl (by kernel_rfl) (by kernel_rfl) (by kernel_rfl) (fun _ _ _ h => h) (Or.inl ⟨by rfl, ?_⟩) hHeld ?_
        · intro wq hSw; (try dsimp only at hSw); exact exec_loadRow 29 _ rfl g4 rfl 29 _ _ _ ((hSw.block _ l4').trans hR4) Try.underlying29 rfl (by kernel_rfl)
        try simp only [Act.put, List.getElem_toArray, List.getElem_cons_succ, List.getElem_cons_zero, List.setIfInBounds_toArray, List.set_cons_zero, List.set_cons_succ]
        refine wpAnyH_take (i := 1) (v := (.agg #[.int .i64 h5.id, .int .i64 h5.cf.1, .int .i64 h5.cf.2.1, .int .i64 h5.cf.2.2.1, .int .i64 h5.cf.2.2.2.1, .int .i64 h5.cf.2.2.2.2.1, .int .i64 h5.cf.2.2.2.2.2.1, .int .i64 h5.cf.2.2.2.2.2.2.1, .int .i64 h5.cf.2.2.2.2.2.2.2.1, .int .i64 h5.cf.2.2.2.2.2.2.2.2, .slice h5.kA h5.kn h5.kc, .slice h5.fA h5.fn h5.fc, .bool h5.over])) rfl (by kernel_rfl) (by kernel_rfl) (by kernel_rfl) (fun _ _ _ h => h) (Or.inl ⟨by rfl, ?_⟩) hHeld ?_
        · intro wq hSw; (try dsimp only at hSw); exact exec_loadRow 29 _ rfl g5 rfl 29 _ _ _ ((hSw.block _ l5').trans hR5) Try.underlying29 rfl (by kernel_rfl)
        try simp only [Act.put, List.getElem_toArray, List.getElem_cons_succ, List.getElem_cons_zero, List.setIfInBounds_toArray, List.set_cons_zero, List.set_cons_succ]
        refine wpAnyH_ready (rs := [2]) (by kernel_rfl) (by simp) ?_
        refine AllReadyH.cons rfl (fun K hK => ?_) AllReadyH.nil
        go_simp; go_at_call 16; refine (rSame18_any h4 h5 l4 l5 fs4 fs5 _ (hN4.next hS) (hN5.next hS) (by omega) (by omega) (by omega) (by omega) r3 v3).mono ?_; rw [hs1.out]; rintro e wx ⟨rfl, hbx⟩; replace hS := hS.trans (hbx.mono hS.size); clear hbx; try go_wp2_with fail
        refine hK.out _ _ ?_ (fun hHeld => ?_)
        · (try dsimp only); first | done | ((first | exact hS | skip))
        clear hK K
        try simp only [Act.put, List.getElem_toArray, List.getElem_cons_succ, List.getElem_cons_zero, List.setIfInBounds_toArray, List.set_cons_zero, List.set_cons_succ]
        first
         | (refine wpAnyH_take (i := 3) (v := ?_) rfl (by kernel_rfl) (by kernel_rfl) (by kernel_rfl) (fun _ _ _ h => h) (Or.inl ⟨by rfl, ?_⟩) hHeld ?_; rotate_left; (intro wq hSw; (try dsimp only at hSw); go_simp; done))
         | (refine wpAnyH_take (i := 3) (v := ?_) rfl (by kernel_rfl) (by kernel_rfl) (by kernel_rfl) (fun _ _ _ h => h) (Or.inl ⟨by rfl, ?_⟩) hHeld ?_; rotate_left; (intro wq hSw; (try dsimp only at hSw); go_simp; with_reducible rfl))
        try simp only [Act.put, List.getElem_toArray, List.getElem_cons_succ, List.getElem_cons_zero, List.setIfInBounds_toArray, List.set_cons_zero, List.set_cons_succ]
        first
         | (refine wpAnyH_take (i := 4) (v := ?_) rfl (by kernel_rfl) (by kernel_rfl) (by kernel_rfl) (fun _ _ _ h => h) (Or.inl ⟨by rfl, ?_⟩) hHeld ?_; rotate_left; (intro wq hSw; (try dsimp only at hSw); go_simp; done))
         | (refine wpAnyH_take (i := 4) (v := ?_) rfl (by kernel_rfl) (by kernel_rfl) (by kernel_rfl) (fun _ _ _ h => h) (Or.inl ⟨by rfl, ?_⟩) hHeld ?_; rotate_left; (intro wq hSw; (try dsimp only at hSw); go_simp; with_reducible rfl))
        try simp only [Act.put, List.getElem_toArray, List.getElem_cons_succ, List.getElem_cons_zero, List.setIfInBounds_toArray, List.set_cons_zero, List.set_cons_succ]
        first
         | (refine wpAnyH_take (i := 5) (v := ?_) rfl (by kernel_rfl) (by kernel_rfl) (by kernel_rfl) (fun _ _ _ h => h) (Or.inl ⟨by rfl, ?_⟩) hHeld ?_; rotate_left; (intro wq hSw; (try dsimp only at hSw); go_simp; done))
         | (refine wpAnyH_take (i := 5) (v := ?_) rfl (by kernel_rfl) (by kernel_rfl) (by kernel_rfl) (fun _ _ _ h => h) (Or.inl ⟨by rfl, ?_⟩) hHeld ?_; rotate_left; (intro wq hSw; (try dsimp only at hSw); go_simp; with_reducible rfl))
        try simp only [Act.put, List.getElem_toArray, List.getElem_cons_succ, List.getElem_cons_zero, List.setIfInBounds_toArray, List.set_cons_zero, List.set_cons_succ]
        first
         | (refine wpAnyH_take (i := 6) (v := ?_) rfl (by kernel_rfl) (by kernel_rfl) (by kernel_rfl) (fun _ _ _ h => h) (Or.inl ⟨by rfl, ?_⟩) hHeld ?_; rotate_left; (intro wq hSw; (try dsimp only at hSw); go_simp; done))
         | (refine wpAnyH_take (i := 6) (v := ?_) rfl (by kernel_rfl) (by kernel_rfl) (by kernel_rfl) (fun _ _ _ h => h) (Or.inl ⟨by rfl, ?_⟩) hHeld ?_; rotate_left; (intro wq hSw; (try dsimp only at hSw); go_simp; with_reducible rfl))
        try simp only [Act.put, List.getElem_toArray, List.getElem_cons_succ, List.getElem_cons_zero, List.setIfInBounds_toArray, List.set_cons_zero, List.set_cons_succ]
        refine wpAnyH_ready (rs := [7]) (by kernel_rfl) (by simp) ?_
        refine AllReadyH.cons rfl (fun K hK => ?_) AllReadyH.nil
        go_simp; go_at_call 19; refine (SameDeeds_same A4 A5 n4 c4 c5 d4 d5 _ (hD4.next hS) (hD5.next hS) (HD4.out.trans HD5.out.symm) (by omega)).mono ?_; rintro e wx ⟨rfl, hbx⟩; replace hS := hS.trans (hbx.mono hS.size); clear hbx; try go_wp2_with fail
        refine hK.out _ _ ?_ (fun hHeld => ?_)
        · (try dsimp only); first | done | ((first | exact hS | skip))
        clear hK K
        try simp only [Act.put, List.getElem_toArray, List.getElem_cons_succ, List.getElem_cons_zero, List.setIfInBounds_toArray, List.set_cons_zero, List.set_cons_succ]
        first
         | (refine wpAnyH_take (i := 8) (v := ?_) rfl (by kernel_rfl) (by kernel_rfl) (by kernel_rfl) (fun _ _ _ h => h) (Or.inl ⟨by rfl, ?_⟩) hHeld ?_; rotate_left; (intro wq hSw; (try dsimp only at hSw); go_simp; done))
         | (refine wpAnyH_take (i := 8) (v := ?_) rfl (by kernel_rfl) (by kernel_rfl) (by kernel_rfl) (fun _ _ _ h => h) (Or.inl ⟨by rfl, ?_⟩) hHeld ?_; rotate_left; (intro wq hSw; (try dsimp only at hSw); go_simp; with_reducible rfl))
        try simp only [Act.put, List.getElem_toArray, List.getElem_cons_succ, List.getElem_cons_zero, List.setIfInBounds_toArray, List.set_cons_zero, List.set_cons_succ]
        first
         | (refine wpAnyH_take (i := 9) (v := ?_) rfl (by kernel_rfl) (by kernel_rfl) (by kernel_rfl) (fun _ _ _ h => h) (Or.inl ⟨by rfl, ?_⟩) hHeld ?_; rotate_left; (intro wq hSw; (try dsimp only at hSw); go_simp; done))
         | (refine wpAnyH_take (i := 9) (v := ?_) rfl (by kernel_rfl) (by kernel_rfl) (by kernel_rfl) (fun _ _ _ h => h) (Or.inl ⟨by rfl, ?_⟩) hHeld ?_; rotate_left; (intro wq hSw; (try dsimp only at hSw); go_simp; with_reducible rfl))
        try simp only [Act.put, List.getElem_toArray, List.getElem_cons_succ, List.getElem_cons_zero, List.setIfInBounds_toArray, List.set_cons_zero, List.set_cons_succ]
        first
         | (refine wpAnyH_take (i := 10) (v := ?_) rfl (by kernel_rfl) (by kernel_rfl) (by kernel_rfl) (fun _ _ _ h => h) (Or.inl ⟨by rfl, ?_⟩) hHeld ?_; rotate_left; (intro wq hSw; (try dsimp only at hSw); go_simp; done))
         | (refine wpAnyH_take (i := 10) (v := ?_) rfl (by kernel_rfl) (by kernel_rfl) (by kernel_rfl) (fun _ _ _ h => h) (Or.inl ⟨by rfl, ?_⟩) hHeld ?_; rotate_left; (intro wq hSw; (try dsimp only at hSw); go_simp; with_reducible rfl))
        try simp only [Act.put, List.getElem_toArray, List.getElem_cons_succ, List.getElem_cons_zero, List.setIfInBounds_toArray, List.set_cons_zero, List.set_cons_succ]
        first
         | (refine wpAnyH_take (i := 11) (v := ?_) rfl (by kernel_rfl) (by kernel_rfl) (by kernel_rfl) (fun _ _ _ h => h) (Or.inl ⟨by rfl, ?_⟩) hHeld ?_; rotate_left; (intro wq hSw; (try dsimp only at hSw); go_simp; done))
         | (refine wpAnyH_take (i := 11) (v := ?_) rfl (by kernel_rfl) (by kernel_rfl) (by kernel_rfl) (fun _ _ _ h => h) (Or.inl ⟨by rfl, ?_⟩) hHeld ?_; rotate_left; (intro wq hSw; (try dsimp only at hSw); go_simp; with_reducible rfl))
        try simp only [Act.put, List.getElem_toArray, List.getElem_cons_succ, List.getElem_cons_zero, List.setIfInBounds_toArray, List.set_cons_zero, List.set_cons_succ]
        first
         | (refine wpAnyH_take (i := 12) (v := ?_) rfl (by kernel_rfl) (by kernel_rfl) (by kernel_rfl) (fun _ _ _ h => h) (Or.inl ⟨by rfl, ?_⟩) hHeld ?_; rotate_left; (intro wq hSw; (try dsimp only at hSw); go_simp; done))
         | (refine wpAnyH_take (i := 12) (v := ?_) rfl (by kernel_rfl) (by kernel_rfl) (by kernel_rfl) (fun _ _ _ h => h) (Or.inl ⟨by rfl, ?_⟩) hHeld ?_; rotate_left; (intro wq hSw; (try dsimp only at hSw); go_simp; with_reducible rfl))
        try simp only [Act.put, List.getElem_toArray, List.getElem_cons_succ, List.getElem_cons_zero, List.setIfInBounds_toArray, List.set_cons_zero, List.set_cons_succ]
        first
         | (refine wpAnyH_take (i := 15) (v := ?_) rfl (by kernel_rfl) (by kernel_rfl) (by kernel_rfl) (fun _ _ _ h => h) (Or.inl ⟨by rfl, ?_⟩) hHeld ?_; rotate_left; (intro wq hSw; (try dsimp only at hSw); go_simp; done))
         | (refine wpAnyH_take (i := 15) (v := ?_) rfl (by kernel_rfl) (by kernel_rfl) (by kernel_rfl) (fun _ _ _ h => h) (Or.inl ⟨by rfl, ?_⟩) hHeld ?_; rotate_left; (intro wq hSw; (try dsimp only at hSw); go_simp; with_reducible rfl))
        try simp only [Act.put, List.getElem_toArray, List.getElem_cons_succ, List.getElem_cons_zero, List.setIfInBounds_toArray, List.set_cons_zero, List.set_cons_succ]
        first
         | (refine wpAnyH_take (i := 16) (v := ?_) rfl (by kernel_rfl) (by kernel_rfl) (by kernel_rfl) (fun _ _ _ h => h) (Or.inl ⟨by rfl, ?_⟩) hHeld ?_; rotate_left; (intro wq hSw; (try dsimp only at hSw); go_simp; done))
         | (refine wpAnyH_take (i := 16) (v := ?_) rfl (by kernel_rfl) (by kernel_rfl) (by kernel_rfl) (fun _ _ _ h => h) (Or.inl ⟨by rfl, ?_⟩) hHeld ?_; rotate_left; (intro wq hSw; (try dsimp only at hSw); go_simp; with_reducible rfl))
        try simp only [Act.put, List.getElem_toArray, List.getElem_cons_succ, List.getElem_cons_zero, List.setIfInBounds_toArray, List.set_cons_zero, List.set_cons_succ]
        first
         | (refine wpAnyH_take (i := 13) (v := ?_) rfl (by kernel_rfl) (by kernel_rfl) (by kernel_rfl) (fun _ _ _ h => h) (Or.inl ⟨by rfl, ?_⟩) hHeld ?_; rotate_left; (intro wq hSw; (try dsimp only at hSw); obtain ⟨x0, x1, x2, x3, x4, x5, x6, x7, x8, x9, x10, x11, x12⟩ := NmRow.cells (w := wq) (h := h) ((hSw.block _ la).trans hA); go_simp; done))
         | (refine wpAnyH_take (i := 13) (v := ?_) rfl (by kernel_rfl) (by kernel_rfl) (by kernel_rfl) (fun _ _ _ h => h) (Or.inl ⟨by rfl, ?_⟩) hHeld ?_; rotate_left; (intro wq hSw; (try dsimp only at hSw); obtain ⟨x0, x1, x2, x3, x4, x5, x6, x7, x8, x9, x10, x11, x12⟩ := NmRow.cells (w := wq) (h := h) ((hSw.block _ la).trans hA); go_simp; with_reducible rfl))
        try simp only [Act.put, List.getElem_toArray, List.getElem_cons_succ, List.getElem_cons_zero, List.setIfInBounds_toArray, List.set_cons_zero, List.set_cons_succ]
        first
         | (refine wpAnyH_take (i := 17) (v := ?_) rfl (by kernel_rfl) (by kernel_rfl) (by kernel_rfl) (fun _ _ _ h => h) (Or.inl ⟨by rfl, ?_⟩) hHeld ?_; rotate_left; (intro wq hSw; (try dsimp only at hSw); obtain ⟨x0, x1, x2, x3, x4, x5, x6, x7, x8, x9, x10, x11, x12⟩ := NmRow.cells (w := wq) (h := h) ((hSw.block _ la).trans hA); go_simp; done))
         | (refine wpAnyH_take (i := 17) (v := ?_) rfl (by kernel_rfl) (by kernel_rfl) (by kernel_rfl) (fun _ _ _ h => h) (Or.inl ⟨by rfl, ?_⟩) hHeld ?_; rotate_left; (intro wq hSw; (try dsimp only at hSw); obtain ⟨x0, x1, x2, x3, x4, x5, x6, x7, x8, x9, x10, x11, x12⟩ := NmRow.cells (w := wq) (h := h) ((hSw.block _ la).trans hA); go_simp; with_reducible rfl))
        try simp only [Act.put, List.getElem_toArray, List.getElem_cons_succ, List.getElem_cons_zero, List.setIfInBounds_toArray, List.set_cons_zero, List.set_cons_succ]
        refine wpAnyH_ready (rs := [14]) (by kernel_rfl) (by simp) ?_
        refine AllReadyH.cons rfl (fun K hK => ?_) AllReadyH.nil
        go_simp; go_at_call 8; refine (Begin_any nx h.cf _).mono ?_; rintro e wx ⟨rfl, hbx⟩; replace hS := hS.trans (hbx.mono hS.size); clear hbx; try go_wp2_with fail
        refine hK.out _ _ ?_ (fun hHeld => ?_)
        · (try dsimp only); first | done | ((first | exact hS | skip))
        clear hK K
        try simp only [Act.put, List.getElem_toArray, List.getElem_cons_succ, List.getElem_cons_zero, List.setIfInBounds_toArray, List.set_cons_zero, List.set_cons_succ]
        refine wpAnyH_ready (rs := [18]) (by kernel_rfl) (by simp) ?_
        refine AllReadyH.cons rfl (fun K hK => ?_) AllReadyH.nil
        go_simp; go_at_call 20; refine (rBegin18_any nx h.cf _).mono ?_; rintro e wx ⟨rfl, hbx⟩; replace hS := hS.trans (hbx.mono hS.size); clear hbx; try go_wp2_with fail
        refine hK.out _ _ ?_ (fun hHeld => ?_)
        · (try dsimp only); first | done | ((first | exact hS | skip))
        clear hK K
        try simp only [Act.put, List.getElem_toArray, List.getElem_cons_succ, List.getElem_cons_zero, List.setIfInBounds_toArray, List.set_cons_zero, List.set_cons_succ]
        refine wpAnyH_ready (rs := [19]) (by kernel_rfl) (by simp) ?_
        refine AllReadyH.cons rfl (fun K hK => ?_) AllReadyH.nil
        go_simp; go_at_call 16; refine (rSame18_any ⟨nx, h.cf, none, 0, 0, none, 0, 0, false⟩ ⟨nx, h.cf, none, 0, 0, none, 0, 0, false⟩ [] [] [] [] _ (NmIs.bare _ _ _ _) (NmIs.bare _ _ _ _) (Nat.zero_le _) (Nat.zero_le _) (Nat.zero_le _) (Nat.zero_le _) (by simp) (by simp)).mono ?_; rw [hs2.out]; rintro e wx ⟨rfl, hbx⟩; replace hS := hS.trans (hbx.mono hS.size); clear hbx; try go_wp2_with fail
        refine hK.out _ _ ?_ (fun hHeld => ?_)
        · (try dsimp only); first | done | ((first | exact hS | skip))
        clear hK K
        try simp only [Act.put, List.getElem_toArray, List.getElem_cons_succ, List.getElem_cons_zero, List.setIfInBounds_toArray, List.set_cons_zero, List.set_cons_succ]
        first
         | (refine wpAnyH_take (i := 20) (v := ?_) rfl (by kernel_rfl) (by kernel_rfl) (by kernel_rfl) (fun _ _ _ h => h) (Or.inl ⟨by rfl, ?_⟩) hHeld ?_; rotate_left; (intro wq hSw; (try dsimp only at hSw); go_simp; done))
         | (refine wpAnyH_take (i := 20) (v := ?_) rfl (by kernel_rfl) (by kernel_rfl) (by kernel_rfl) (fun _ _ _ h => h) (Or.inl ⟨by rfl, ?_⟩) hHeld ?_; rotate_left; (intro wq hSw; (try dsimp only at hSw); go_simp; with_reducible rfl))
        try simp only [Act.put, List.getElem_toArray, List.getElem_cons_succ, List.getElem_cons_zero, List.setIfInBounds_toArray, List.set_cons_zero, List.set_cons_succ]
        first
         | (refine wpAnyH_take (i := 21) (v := ?_) rfl (by kernel_rfl) (by kernel_rfl) (by kernel_rfl) (fun _ _ _ h => h) (Or.inl ⟨by rfl, ?_⟩) hHeld ?_; rotate_left; (intro wq hSw; (try dsimp only at hSw); go_simp; done))
         | (refine wpAnyH_take (i := 21) (v := ?_) rfl (by kernel_rfl) (by kernel_rfl) (by kernel_rfl) (fun _ _ _ h => h) (Or.inl ⟨by rfl, ?_⟩) hHeld ?_; rotate_left; (intro wq hSw; (try dsimp only at hSw); go_simp; with_reducible rfl))
        try simp only [Act.put, List.getElem_toArray, List.getElem_cons_succ, List.getElem_cons_zero, List.setIfInBounds_toArray, List.set_cons_zero, List.set_cons_succ]
        refine wpAnyH_done (by kernel_rfl) ?_ _
        (go_wp2_with fail; go_meet; exact ⟨rfl, hHeld⟩)
      case rest =>
        obtain ⟨rfl, hS5⟩ := hcut
        obtain ⟨V, hV⟩ : ∃ V, V = wc := ⟨_, rfl⟩
        rw [← hV] at hS5 ⊢
        clear hV
        replace hA : NmRow V w.heap.size h := (hS5.block _ hA.lt).trans hA
        replace hO : NmRow V (w.heap.size + 1) o := (hS5.block _ hO.lt).trans hO
        replace hL := hL.below hS5 hL.lt
        replace hB := hB.trans (hS5.mono hB.size)
        replace hN := hN.next hS5
        replace hM := hM.next hS5
        clear hS5 hS hR4 hR5 hN4 hN5 hD4 hD5 hs1 hs2 r1 r2 r3 v1 v2 v3 l4' l5' hn60 la
        have HK := Lib.hid (hok.at_ hN)
        have HO := Lib.hid (HF2.out.ok.at_ hM)
        obtain ⟨fv, HFV⟩ : ∃ b, Hid ([m.t].all (fliesB (absN h l fs)) = b) := ⟨_, rfl⟩
        obtain ⟨av, HAV⟩ : ∃ b, Hid (askedN (absN h l fs) = b) := ⟨_, rfl⟩
        obtain ⟨sv, HSV⟩ : ∃ b, Hid (sameN (absN h l fs) (absN o lo fo) = b) := ⟨_, rfl⟩
        have la := hA.lt
        have lo' := hO.lt
        have ll := hL.lt
        have hS : Below V.heap.size V V.drew := (Below.refl _ _).drew
        go_upto_region 7 with fail
        refine wp_region_held_drew (S := (fun wx => Below V.heap.size V wx)) (by kernel_rfl) ?_ (fun hHeld => ?_)
        · exact hS
        apply wpAnyH_meet6 (fun (_ : Option Addr) (_ : Nat) (_ : Option Addr) (_ : Nat) (_ _ : Option Addr) _ => True)
        · intro hmeet
          refine wpAnyH_take (i := 0) (v := (.agg #[.int .i64 h.id, .int .i64 h.cf.1, .int .i64 h.cf.2.1, .int .i64 h.cf.2.2.1, .int .i64 h.cf.2.2.2.1, .int .i64 h.cf.2.2.2.2.1, .int .i64 h.cf.2.2.2.2.2.1, .int .i64 h.cf.2.2.2.2.2.2.1, .int .i64 h.cf.2.2.2.2.2.2.2.1, .int .i64 h.cf.2.2.2.2.2.2.2.2, .slice h.kA h.kn h.kc, .slice h.fA h.fn h.fc, .bool h.over])) rfl (by kernel_rfl) (by kernel_rfl) (by kernel_rfl) (fun _ _ _ h => h) (Or.inl ⟨by rfl, ?_⟩) hHeld ?_
          · intro wq hSw; (try dsimp only at hSw); exact exec_loadRow 29 _ rfl w.heap.size rfl 29 _ _ _ ((hSw.block _ la).trans hA) Try.underlying29 rfl (by kernel_rfl)
          try simp only [Act.put, List.getElem_toArray, List.getElem_cons_succ, List.getElem_cons_zero, List.setIfInBounds_toArray, List.set_cons_zero, List.set_cons_succ]
          refine wpAnyH_take (i := 2) (v := (.agg #[.int .i64 h.id, .int .i64 h.cf.1, .int .i64 h.cf.2.1, .int .i64 h.cf.2.2.1, .int .i64 h.cf.2.2.2.1, .int .i64 h.cf.2.2.2.2.1, .int .i64 h.cf.2.2.2.2.2.1, .int .i64 h.cf.2.2.2.2.2.2.1, .int .i64 h.cf.2.2.2.2.2.2.2.1, .int .i64 h.cf.2.2.2.2.2.2.2.2, .slice h.kA h.kn h.kc, .slice h.fA h.fn h.fc, .bool h.over])) rfl (by kernel_rfl) (by kernel_rfl) (by kernel_rfl) (fun _ _ _ h => h) (Or.inl ⟨by rfl, ?_⟩) hHeld ?_
          · intro wq hSw; (try dsimp only at hSw); exact exec_loadRow 29 _ rfl w.heap.size rfl 29 _ _ _ ((hSw.block _ la).trans hA) Try.underlying29 rfl (by kernel_rfl)
          try simp only [Act.put, List.getElem_toArray, List.getElem_cons_succ, List.getElem_cons_zero, List.setIfInBounds_toArray, List.set_cons_zero, List.set_cons_succ]
          refine wpAnyH_ready (rs := [1]) (by kernel_rfl) (by simp) ?_
          refine AllReadyH.cons rfl (fun K hK => ?_) AllReadyH.nil
          go_simp; go_at_call 17; refine (Offers18_any h l fs _).mono ?_; rintro e wx ⟨A1, c1, rfl, hO1, hbx⟩; replace hS := hS.trans (hbx.mono hS.size); clear hbx; try go_wp2_with fail
          refine hK.out _ _ ?_ (fun hHeld => ?_)
          · (try dsimp only); first | done | (exact hS)
          clear hK K
          try simp only [Act.put, List.getElem_toArray, List.getElem_cons_succ, List.getElem_cons_zero, List.setIfInBounds_toArray, List.set_cons_zero, List.set_cons_succ]
          refine wpAnyH_ready (rs := [3]) (by kernel_rfl) (by simp) ?_
          refine AllReadyH.cons rfl (fun K hK => ?_) AllReadyH.nil
          go_simp; go_at_call 22; refine (rOffers18_any h l fs _ HS.out.1.2.2.2).mono ?_; rintro e wx ⟨A2, c2, rfl, hO2, hbx⟩; replace hO1 := (Recs.below hO1 hbx).more hbx.size; replace hS := hS.trans (hbx.mono hS.size); clear hbx; try go_wp2_with fail
          refine hK.out _ _ ?_ (fun hHeld => ?_)
          · (try dsimp only); first | done | (exact hS)
          clear hK K
          try simp only [Act.put, List.getElem_toArray, List.getElem_cons_succ, List.getElem_cons_zero, List.setIfInBounds_toArray, List.set_cons_zero, List.set_cons_succ]
          refine wpAnyH_ready (rs := [4]) (by kernel_rfl) (by simp) ?_
          refine AllReadyH.cons rfl (fun K hK => ?_) AllReadyH.nil
          go_simp; go_at_call 21; refine (SameOffers_same A1 A2 _ c1 c2 _ _ hO1 hO2 (offers_few _)).mono ?_; rintro e wx ⟨rfl, hbx⟩; replace hS := hS.trans (hbx.mono hS.size); clear hbx; try go_wp2_with fail
          refine hK.out _ _ ?_ (fun hHeld => ?_)
          · (try dsimp only); first | done | (exact hS)
          clear hK K
          try simp only [Act.put, List.getElem_toArray, List.getElem_cons_succ, List.getElem_cons_zero, List.setIfInBounds_toArray, List.set_cons_zero, List.set_cons_succ]
          first
           | (refine wpAnyH_take (i := 5) (v := ?_) rfl (by kernel_rfl) (by kernel_rfl) (by kernel_rfl) (fun _ _ _ h => h) (Or.inl ⟨by rfl, ?_⟩) hHeld ?_; rotate_left; (intro wq hSw; (try dsimp only at hSw); go_simp; done))
           | (refine wpAnyH_take (i := 5) (v := ?_) rfl (by kernel_rfl) (by kernel_rfl) (by kernel_rfl) (fun _ _ _ h => h) (Or.inl ⟨by rfl, ?_⟩) hHeld ?_; rotate_left; (intro wq hSw; (try dsimp only at hSw); go_simp; with_reducible rfl))
          try simp only [Act.put, List.getElem_toArray, List.getElem_cons_succ, List.getElem_cons_zero, List.setIfInBounds_toArray, List.set_cons_zero, List.set_cons_succ]
          refine wpAnyH_take (i := 6) (v := (.agg #[.int .i64 h.id, .int .i64 h.cf.1, .int .i64 h.cf.2.1, .int .i64 h.cf.2.2.1, .int .i64 h.cf.2.2.2.1, .int .i64 h.cf.2.2.2.2.1, .int .i64 h.cf.2.2.2.2.2.1, .int .i64 h.cf.2.2.2.2.2.2.1, .int .i64 h.cf.2.2.2.2.2.2.2.1, .int .i64 h.cf.2.2.2.2.2.2.2.2, .slice h.kA h.kn h.kc, .slice h.fA h.fn h.fc, .bool h.over])) rfl (by kernel_rfl) (by kernel_rfl) (by kernel_rfl) (fun _ _ _ h => h) (Or.inl ⟨by rfl, ?_⟩) hHeld ?_
          · intro wq hSw; (try dsimp only at hSw); exact exec_loadRow 29 _ rfl w.heap.size rfl 29 _ _ _ ((hSw.block _ la).trans hA) Try.underlying29 rfl (by kernel_rfl)
          try simp only [Act.put, List.getElem_toArray, List.getElem_cons_succ, List.getElem_cons_zero, List.setIfInBounds_toArray, List.set_cons_zero, List.set_cons_succ]
          refine wpAnyH_take (i := 8) (v := (.agg #[.int .i64 h.id, .int .i64 h.cf.1, .int .i64 h.cf.2.1, .int .i64 h.cf.2.2.1, .int .i64 h.cf.2.2.2.1, .int .i64 h.cf.2.2.2.2.1, .int .i64 h.cf.2.2.2.2.2.1, .int .i64 h.cf.2.2.2.2.2.2.1, .int .i64 h.cf.2.2.2.2.2.2.2.1, .int .i64 h.cf.2.2.2.2.2.2.2.2, .slice h.kA h.kn h.kc, .slice h.fA h.fn h.fc, .bool h.over])) rfl (by kernel_rfl) (by kernel_rfl) (by kernel_rfl) (fun _ _ _ h => h) (Or.inl ⟨by rfl, ?_⟩) hHeld ?_
          · intro wq hSw; (try dsimp only at hSw); exact exec_loadRow 29 _ rfl w.heap.size rfl 29 _ _ _ ((hSw.block _ la).trans hA) Try.underlying29 rfl (by kernel_rfl)
          try simp only [Act.put, List.getElem_toArray, List.getElem_cons_succ, List.getElem_cons_zero, List.setIfInBounds_toArray, List.set_cons_zero, List.set_cons_succ]
          refine wpAnyH_ready (rs := [7]) (by kernel_rfl) (by simp) ?_
          refine AllReadyH.cons rfl (fun K hK => ?_) AllReadyH.nil
          go_simp; go_at_call 14; refine (Over_any h _).mono ?_; rintro e wx ⟨rfl, hbx⟩; replace hS := hS.trans (hbx.mono hS.size); clear hbx; try go_wp2_with fail
          refine hK.out _ _ ?_ (fun hHeld => ?_)
          · (try dsimp only); first | done | (exact hS)
          clear hK K
          try simp only [Act.put, List.getElem_toArray, List.getElem_cons_succ, List.getElem_cons_zero, List.setIfInBounds_toArray, List.set_cons_zero, List.set_cons_succ]
          refine wpAnyH_ready (rs := [9]) (by kernel_rfl) (by simp) ?_
          refine AllReadyH.cons rfl (fun K hK => ?_) AllReadyH.nil
          go_simp; go_at_call 23; refine (rOver18_any h _).mono ?_; rintro e wx ⟨rfl, hbx⟩; replace hS := hS.trans (hbx.mono hS.size); clear hbx; try go_wp2_with fail
          refine hK.out _ _ ?_ (fun hHeld => ?_)
          · (try dsimp only); first | done | (exact hS)
          clear hK K
          try simp only [Act.put, List.getElem_toArray, List.getElem_cons_succ, List.getElem_cons_zero, List.setIfInBounds_toArray, List.set_cons_zero, List.set_cons_succ]
          first
           | (refine wpAnyH_take (i := 10) (v := ?_) rfl (by kernel_rfl) (by kernel_rfl) (by kernel_rfl) (fun _ _ _ h => h) (Or.inl ⟨by rfl, ?_⟩) hHeld ?_; rotate_left; (intro wq hSw; (try dsimp only at hSw); go_simp; done))
           | (refine wpAnyH_take (i := 10) (v := ?_) rfl (by kernel_rfl) (by kernel_rfl) (by kernel_rfl) (fun _ _ _ h => h) (Or.inl ⟨by rfl, ?_⟩) hHeld ?_; rotate_left; (intro wq hSw; (try dsimp only at hSw); go_simp; with_reducible rfl))
          try simp only [Act.put, List.getElem_toArray, List.getElem_cons_succ, List.getElem_cons_zero, List.setIfInBounds_toArray, List.set_cons_zero, List.set_cons_succ]
          first
           | (refine wpAnyH_take (i := 11) (v := ?_) rfl (by kernel_rfl) (by kernel_rfl) (by kernel_rfl) (fun _ _ _ h => h) (Or.inl ⟨by rfl, ?_⟩) hHeld ?_; rotate_left; (intro wq hSw; (try dsimp only at hSw); go_simp; done))
           | (refine wpAnyH_take (i := 11) (v := ?_) rfl (by kernel_rfl) (by kernel_rfl) (by kernel_rfl) (fun _ _ _ h => h) (Or.inl ⟨by rfl, ?_⟩) hHeld ?_; rotate_left; (intro wq hSw; (try dsimp only at hSw); go_simp; with_reducible rfl))
          try simp only [Act.put, List.getElem_toArray, List.getElem_cons_succ, List.getElem_cons_zero, List.setIfInBounds_toArray, List.set_cons_zero, List.set_cons_succ]
          first
           | (refine wpAnyH_take (i := 12) (v := ?_) rfl (by kernel_rfl) (by kernel_rfl) (by kernel_rfl) (fun _ _ _ h => h) (Or.inl ⟨by rfl, ?_⟩) hHeld ?_; rotate_left; (intro wq hSw; (try dsimp only at hSw); go_simp; done))
           | (refine wpAnyH_take (i := 12) (v := ?_) rfl (by kernel_rfl) (by kernel_rfl) (by kernel_rfl) (fun _ _ _ h => h) (Or.inl ⟨by rfl, ?_⟩) hHeld ?_; rotate_left; (intro wq hSw; (try dsimp only at hSw); go_simp; with_reducible rfl))
          try simp only [Act.put, List.getElem_toArray, List.getElem_cons_succ, List.getElem_cons_zero, List.setIfInBounds_toArray, List.set_cons_zero, List.set_cons_succ]
          refine wpAnyH_take (i := 13) (v := (.agg #[.int .i64 h.id, .int .i64 h.cf.1, .int .i64 h.cf.2.1, .int .i64 h.cf.2.2.1, .int .i64 h.cf.2.2.2.1, .int .i64 h.cf.2.2.2.2.1, .int .i64 h.cf.2.2.2.2.2.1, .int .i64 h.cf.2.2.2.2.2.2.1, .int .i64 h.cf.2.2.2.2.2.2.2.1, .int .i64 h.cf.2.2.2.2.2.2.2.2, .slice h.kA h.kn h.kc, .slice h.fA h.fn h.fc, .bool h.over])) rfl (by kernel_rfl) (by kernel_rfl) (by kernel_rfl) (fun _ _ _ h => h) (Or.inl ⟨by rfl, ?_⟩) hHeld ?_
          · intro wq hSw; (try dsimp only at hSw); exact exec_loadRow 29 _ rfl w.heap.size rfl 29 _ _ _ ((hSw.block _ la).trans hA) Try.underlying29 rfl (by kernel_rfl)
          try simp only [Act.put, List.getElem_toArray, List.getElem_cons_succ, List.getElem_cons_zero, List.setIfInBounds_toArray, List.set_cons_zero, List.set_cons_succ]
          first
           | (refine wpAnyH_take (i := 14) (v := ?_) rfl (by kernel_rfl) (by kernel_rfl) (by kernel_rfl) (fun _ _ _ h => h) (Or.inl ⟨by rfl, ?_⟩) hHeld ?_; rotate_left; (intro wq hSw; (try dsimp only at hSw); go_simp; done))
           | (refine wpAnyH_take (i := 14) (v := ?_) rfl (by kernel_rfl) (by kernel_rfl) (by kernel_rfl) (fun _ _ _ h => h) (Or.inl ⟨by rfl, ?_⟩) hHeld ?_; rotate_left; (intro wq hSw; (try dsimp only at hSw); go_simp; with_reducible rfl))
          try simp only [Act.put, List.getElem_toArray, List.getElem_cons_succ, List.getElem_cons_zero, List.setIfInBounds_toArray, List.set_cons_zero, List.set_cons_succ]
          refine wpAnyH_take (i := 18) (v := (.agg #[.int .i64 h.id, .int .i64 h.cf.1, .int .i64 h.cf.2.1, .int .i64 h.cf.2.2.1, .int .i64 h.cf.2.2.2.1, .int .i64 h.cf.2.2.2.2.1, .int .i64 h.cf.2.2.2.2.2.1, .int .i64 h.cf.2.2.2.2.2.2.1, .int .i64 h.cf.2.2.2.2.2.2.2.1, .int .i64 h.cf.2.2.2.2.2.2.2.2, .slice h.kA h.kn h.kc, .slice h.fA h.fn h.fc, .bool h.over])) rfl (by kernel_rfl) (by kernel_rfl) (by kernel_rfl) (fun _ _ _ h => h) (Or.inl ⟨by rfl, ?_⟩) hHeld ?_
          · intro wq hSw; (try dsimp only at hSw); exact exec_loadRow 29 _ rfl w.heap.size rfl 29 _ _ _ ((hSw.block _ la).trans hA) Try.underlying29 rfl (by kernel_rfl)
          try simp only [Act.put, List.getElem_toArray, List.getElem_cons_succ, List.getElem_cons_zero, List.setIfInBounds_toArray, List.set_cons_zero, List.set_cons_succ]
          first
           | (refine wpAnyH_take (i := 19) (v := ?_) rfl (by kernel_rfl) (by kernel_rfl) (by kernel_rfl) (fun _ _ _ h => h) (Or.inl ⟨by rfl, ?_⟩) hHeld ?_; rotate_left; (intro wq hSw; (try dsimp only at hSw); go_simp; done))
           | (refine wpAnyH_take (i := 19) (v := ?_) rfl (by kernel_rfl) (by kernel_rfl) (by kernel_rfl) (fun _ _ _ h => h) (Or.inl ⟨by rfl, ?_⟩) hHeld ?_; rotate_left; (intro wq hSw; (try dsimp only at hSw); go_simp; with_reducible rfl))
          try simp only [Act.put, List.getElem_toArray, List.getElem_cons_succ, List.getElem_cons_zero, List.setIfInBounds_toArray, List.set_cons_zero, List.set_cons_succ]
          first
           | (refine wpAnyH_take (i := 15) (v := ?_) rfl (by kernel_rfl) (by kernel_rfl) (by kernel_rfl) (fun _ _ _ h => h) (Or.inl ⟨by rfl, ?_⟩) hHeld ?_; rotate_left; (intro wq hSw; (try dsimp only at hSw); obtain ⟨x0, x1, x2, x3, x4, x5⟩ := LtAt.cells (LtAt.below hL hSw ll); go_simp; done))
           | (refine wpAnyH_take (i := 15) (v := ?_) rfl (by kernel_rfl) (by kernel_rfl) (by kernel_rfl) (fun _ _ _ h => h) (Or.inl ⟨by rfl, ?_⟩) hHeld ?_; rotate_left; (intro wq hSw; (try dsimp only at hSw); obtain ⟨x0, x1, x2, x3, x4, x5⟩ := LtAt.cells (LtAt.below hL hSw ll); go_simp; with_reducible rfl))
          try simp only [Act.put, List.getElem_toArray, List.getElem_cons_succ, List.getElem_cons_zero, List.setIfInBounds_toArray, List.set_cons_zero, List.set_cons_succ]
          first
           | (refine wpAnyH_take (i := 20) (v := ?_) rfl (by kernel_rfl) (by kernel_rfl) (by kernel_rfl) (fun _ _ _ h => h) (Or.inl ⟨by rfl, ?_⟩) hHeld ?_; rotate_left; (intro wq hSw; (try dsimp only at hSw); obtain ⟨x0, x1, x2, x3, x4, x5⟩ := LtAt.cells (LtAt.below hL hSw ll); go_simp; done))
           | (refine wpAnyH_take (i := 20) (v := ?_) rfl (by kernel_rfl) (by kernel_rfl) (by kernel_rfl) (fun _ _ _ h => h) (Or.inl ⟨by rfl, ?_⟩) hHeld ?_; rotate_left; (intro wq hSw; (try dsimp only at hSw); obtain ⟨x0, x1, x2, x3, x4, x5⟩ := LtAt.cells (LtAt.below hL hSw ll); go_simp; with_reducible rfl))
          try simp only [Act.put, List.getElem_toArray, List.getElem_cons_succ, List.getElem_cons_zero, List.setIfInBounds_toArray, List.set_cons_zero, List.set_cons_succ]
          refine wpAnyH_ready (rs := [16, 21]) (by kernel_rfl) (by simp) ?_
          refine AllReadyH.cons rfl (fun K hK => ?_) ?_
          ·
           refine step_buildSt (by rfl) (.tmp 84) (by rfl) m.t (by rfl) ?_; intro B16 wx h16 hbx; (try replace h21 := (Recs.below h21 hbx).more hbx.size); replace hS := hS.trans (hbx.mono hS.size); clear hbx
           refine hK.out _ _ ?_ (fun hHeld => ?_)
           · (try dsimp only); first | done | (exact hS)
           clear hK K
           try simp only [Act.put, List.getElem_toArray, List.getElem_cons_succ, List.getElem_cons_zero, List.setIfInBounds_toArray, List.set_cons_zero, List.set_cons_succ]
           refine wpAnyH_ready (rs := [17, 21]) (by kernel_rfl) (by simp) ?_
           refine AllReadyH.cons rfl (fun K hK => ?_) ?_
           ·
            go_simp; go_at_call 13; have hfl := Flies_any h l fs B16 1 1 [m.t] _ (hN.next hS) HK.out.2.1 h16 (by omega); rw [HFV.out] at hfl; refine hfl.mono ?_; rintro e wx ⟨rfl, hbx⟩; clear hfl; (try replace h21 := (Recs.below h21 hbx).more hbx.size); replace hS := hS.trans (hbx.mono hS.size); clear hbx; try go_wp2_with fail
            refine hK.out _ _ ?_ (fun hHeld => ?_)
            · (try dsimp only); first | done | (exact hS)
            clear hK K
            try simp only [Act.put, List.getElem_toArray, List.getElem_cons_succ, List.getElem_cons_zero, List.setIfInBounds_toArray, List.set_cons_zero, List.set_cons_succ]
            refine wpAnyH_ready (rs := [21]) (by kernel_rfl) (by simp) ?_
            refine AllReadyH.cons rfl (fun K hK => ?_) AllReadyH.nil
            refine step_buildSt (by rfl) (.tmp 89) (by rfl) m.t (by rfl) ?_; intro B21 wx h21 hbx; (try replace h16 := (Recs.below h16 hbx).more hbx.size); replace hS := hS.trans (hbx.mono hS.size); clear hbx
            refine hK.out _ _ ?_ (fun hHeld => ?_)
            · (try dsimp only); first | done | (exact hS)
            clear hK K
            try simp only [Act.put, List.getElem_toArray, List.getElem_cons_succ, List.getElem_cons_zero, List.setIfInBounds_toArray, List.set_cons_zero, List.set_cons_succ]
            refine wpAnyH_ready (rs := [22]) (by kernel_rfl) (by simp) ?_
            refine AllReadyH.cons rfl (fun K hK => ?_) AllReadyH.nil
            go_simp; go_at_call 24; have hfl := rFlies_any h l fs B21 1 1 [m.t] _ (hN.next hS) HK.out.2.1 h21 (by omega); rw [HFV.out] at hfl; refine hfl.mono ?_; rintro e wx ⟨rfl, hbx⟩; clear hfl; (try replace h16 := (Recs.below h16 hbx).more hbx.size); replace hS := hS.trans (hbx.mono hS.size); clear hbx; try go_wp2_with fail
            refine hK.out _ _ ?_ (fun hHeld => ?_)
            · (try dsimp only); first | done | (exact hS)
            clear hK K
            try simp only [Act.put, List.getElem_toArray, List.getElem_cons_succ, List.getElem_cons_zero, List.setIfInBounds_toArray, List.set_cons_zero, List.set_cons_succ]
            first
             | (refine wpAnyH_take (i := 23) (v := ?_) rfl (by kernel_rfl) (by kernel_rfl) (by kernel_rfl) (fun _ _ _ h => h) (Or.inl ⟨by rfl, ?_⟩) hHeld ?_; rotate_left; (intro wq hSw; (try dsimp only at hSw); go_simp; done))
             | (refine wpAnyH_take (i := 23) (v := ?_) rfl (by kernel_rfl) (by kernel_rfl) (by kernel_rfl) (fun _ _ _ h => h) (Or.inl ⟨by rfl, ?_⟩) hHeld ?_; rotate_left; (intro wq hSw; (try dsimp only at hSw); go_simp; with_reducible rfl))
            try simp only [Act.put, List.getElem_toArray, List.getElem_cons_succ, List.getElem_cons_zero, List.setIfInBounds_toArray, List.set_cons_zero, List.set_cons_succ]
            first
             | (refine wpAnyH_take (i := 24) (v := ?_) rfl (by kernel_rfl) (by kernel_rfl) (by kernel_rfl) (fun _ _ _ h => h) (Or.inl ⟨by rfl, ?_⟩) hHeld ?_; rotate_left; (intro wq hSw; (try dsimp only at hSw); go_simp; done))
             | (refine wpAnyH_take (i := 24) (v := ?_) rfl (by kernel_rfl) (by kernel_rfl) (by kernel_rfl) (fun _ _ _ h => h) (Or.inl ⟨by rfl, ?_⟩) hHeld ?_; rotate_left; (intro wq hSw; (try dsimp only at hSw); go_simp; with_reducible rfl))
            try simp only [Act.put, List.getElem_toArray, List.getElem_cons_succ, List.getElem_cons_zero, List.setIfInBounds_toArray, List.set_cons_zero, List.set_cons_succ]
            first
             | (refine wpAnyH_take (i := 25) (v := ?_) rfl (by kernel_rfl) (by kernel_rfl) (by kernel_rfl) (fun _ _ _ h => h) (Or.inl ⟨by rfl, ?_⟩) hHeld ?_; rotate_left; (intro wq hSw; (try dsimp only at hSw); go_simp; done))
             | (refine wpAnyH_take (i := 25) (v := ?_) rfl (by kernel_rfl) (by kernel_rfl) (by kernel_rfl) (fun _ _ _ h => h) (Or.inl ⟨by rfl, ?_⟩) hHeld ?_; rotate_left; (intro wq hSw; (try dsimp only at hSw); go_simp; with_reducible rfl))
            try simp only [Act.put, List.getElem_toArray, List.getElem_cons_succ, List.getElem_cons_zero, List.setIfInBounds_toArray, List.set_cons_zero, List.set_cons_succ]
            refine wpAnyH_take (i := 26) (v := (.agg #[.int .i64 h.id, .int .i64 h.cf.1, .int .i64 h.cf.2.1, .int .i64 h.cf.2.2.1, .int .i64 h.cf.2.2.2.1, .int .i64 h.cf.2.2.2.2.1, .int .i64 h.cf.2.2.2.2.2.1, .int .i64 h.cf.2.2.2.2.2.2.1, .int .i64 h.cf.2.2.2.2.2.2.2.1, .int .i64 h.cf.2.2.2.2.2.2.2.2, .slice h.kA h.kn h.kc, .slice h.fA h.fn h.fc, .bool h.over])) rfl (by kernel_rfl) (by kernel_rfl) (by kernel_rfl) (fun _ _ _ h => h) (Or.inl ⟨by rfl, ?_⟩) hHeld ?_
            · intro wq hSw; (try dsimp only at hSw); exact exec_loadRow 29 _ rfl w.heap.size rfl 29 _ _ _ ((hSw.block _ la).trans hA) Try.underlying29 rfl (by kernel_rfl)
            try simp only [Act.put, List.getElem_toArray, List.getElem_cons_succ, List.getElem_cons_zero, List.setIfInBounds_toArray, List.set_cons_zero, List.set_cons_succ]
            refine wpAnyH_take (i := 28) (v := (.agg #[.int .i64 h.id, .int .i64 h.cf.1, .int .i64 h.cf.2.1, .int .i64 h.cf.2.2.1, .int .i64 h.cf.2.2.2.1, .int .i64 h.cf.2.2.2.2.1, .int .i64 h.cf.2.2.2.2.2.1, .int .i64 h.cf.2.2.2.2.2.2.1, .int .i64 h.cf.2.2.2.2.2.2.2.1, .int .i64 h.cf.2.2.2.2.2.2.2.2, .slice h.kA h.kn h.kc, .slice h.fA h.fn h.fc, .bool h.over])) rfl (by kernel_rfl) (by kernel_rfl) (by kernel_rfl) (fun _ _ _ h => h) (Or.inl ⟨by rfl, ?_⟩) hHeld ?_
            · intro wq hSw; (try dsimp only at hSw); exact exec_loadRow 29 _ rfl w.heap.size rfl 29 _ _ _ ((hSw.block _ la).trans hA) Try.underlying29 rfl (by kernel_rfl)
            try simp only [Act.put, List.getElem_toArray, List.getElem_cons_succ, List.getElem_cons_zero, List.setIfInBounds_toArray, List.set_cons_zero, List.set_cons_succ]
            refine wpAnyH_listed (listed' := #[true, true, true, true, true, true, true, true, true, true, true, true, true, true, true, true, true, true, true, true, true, true, true, true, true, true, true, false, true, false, false, false, false, false, false, false, false, false, false, false, false, false, false, false, false]) (by kernel_rfl) ?_
            exact hmeet A1 c1 A2 c2 B16 B21 _ hS trivial
           refine AllReadyH.cons rfl (fun K hK => ?_) AllReadyH.nil
           refine step_buildSt (by rfl) (.tmp 89) (by rfl) m.t (by rfl) ?_; intro B21 wx h21 hbx; (try replace h16 := (Recs.below h16 hbx).more hbx.size); replace hS := hS.trans (hbx.mono hS.size); clear hbx
           refine hK.out _ _ ?_ (fun hHeld => ?_)
           · (try dsimp only); first | done | (exact hS)
           clear hK K
           try simp only [Act.put, List.getElem_toArray, List.getElem_cons_succ, List.getElem_cons_zero, List.setIfInBounds_toArray, List.set_cons_zero, List.set_cons_succ]
           refine wpAnyH_ready (rs := [17]) (by kernel_rfl) (by simp) ?_
           refine AllReadyH.cons rfl (fun K hK => ?_) AllReadyH.nil
           go_simp; go_at_call 13; have hfl := Flies_any h l fs B16 1 1 [m.t] _ (hN.next hS) HK.out.2.1 h16 (by omega); rw [HFV.out] at hfl; refine hfl.mono ?_; rintro e wx ⟨rfl, hbx⟩; clear hfl; (try replace h21 := (Recs.below h21 hbx).more hbx.size); replace hS := hS.trans (hbx.mono hS.size); clear hbx; try go_wp2_with fail
           refine hK.out _ _ ?_ (fun hHeld => ?_)
           · (try dsimp only); first | done | (exact hS)
           clear hK K
           try simp only [Act.put, List.getElem_toArray, List.getElem_cons_succ, List.getElem_cons_zero, List.setIfInBounds_toArray, List.set_cons_zero, List.set_cons_succ]
           refine wpAnyH_ready (rs := [22]) (by kernel_rfl) (by simp) ?_
           refine AllReadyH.cons rfl (fun K hK => ?_) AllReadyH.nil
           go_simp; go_at_call 24; have hfl := rFlies_any h l fs B21 1 1 [m.t] _ (hN.next hS) HK.out.2.1 h21 (by omega); rw [HFV.out] at hfl; refine hfl.mono ?_; rintro e wx ⟨rfl, hbx⟩; clear hfl; (try replace h16 := (Recs.below h16 hbx).more hbx.size); replace hS := hS.trans (hbx.mono hS.size); clear hbx; try go_wp2_with fail
           refine hK.out _ _ ?_ (fun hHeld => ?_)
           · (try dsimp only); first | done | (exact hS)
           clear hK K
           try simp only [Act.put, List.getElem_toArray, List.getElem_cons_succ, List.getElem_cons_zero, List.setIfInBounds_toArray, List.set_cons_zero, List.set_cons_succ]
           first
            | (refine wpAnyH_take (i := 23) (v := ?_) rfl (by kernel_rfl) (by kernel_rfl) (by kernel_rfl) (fun _ _ _ h => h) (Or.inl ⟨by rfl, ?_⟩) hHeld ?_; rotate_left; (intro wq hSw; (try dsimp only at hSw); go_simp; done))
            | (refine wpAnyH_take (i := 23) (v := ?_) rfl (by kernel_rfl) (by kernel_rfl) (by kernel_rfl) (fun _ _ _ h => h) (Or.inl ⟨by rfl, ?_⟩) hHeld ?_; rotate_left; (intro wq hSw; (try dsimp only at hSw); go_simp; with_reducible rfl))
           try simp only [Act.put, List.getElem_toArray, List.getElem_cons_succ, List.getElem_cons_zero, List.setIfInBounds_toArray, List.set_cons_zero, List.set_cons_succ]
           first
            | (refine wpAnyH_take (i := 24) (v := ?_) rfl (by kernel_rfl) (by kernel_rfl) (by kernel_rfl) (fun _ _ _ h => h) (Or.inl ⟨by rfl, ?_⟩) hHeld ?_; rotate_left; (intro wq hSw; (try dsimp only at hSw); go_simp; done))
            | (refine wpAnyH_take (i := 24) (v := ?_) rfl (by kernel_rfl) (by kernel_rfl) (by kernel_rfl) (fun _ _ _ h => h) (Or.inl ⟨by rfl, ?_⟩) hHeld ?_; rotate_left; (intro wq hSw; (try dsimp only at hSw); go_simp; with_reducible rfl))
           try simp only [Act.put, List.getElem_toArray, List.getElem_cons_succ, List.getElem_cons_zero, List.setIfInBounds_toArray, List.set_cons_zero, List.set_cons_succ]
           first
            | (refine wpAnyH_take (i := 25) (v := ?_) rfl (by kernel_rfl) (by kernel_rfl) (by kernel_rfl) (fun _ _ _ h => h) (Or.inl ⟨by rfl, ?_⟩) hHeld ?_; rotate_left; (intro wq hSw; (try dsimp only at hSw); go_simp; done))
            | (refine wpAnyH_take (i := 25) (v := ?_) rfl (by kernel_rfl) (by kernel_rfl) (by kernel_rfl) (fun _ _ _ h => h) (Or.inl ⟨by rfl, ?_⟩) hHeld ?_; rotate_left; (intro wq hSw; (try dsimp only at hSw); go_simp; with_reducible rfl))
           try simp only [Act.put, List.getElem_toArray, List.getElem_cons_succ, List.getElem_cons_zero, List.setIfInBounds_toArray, List.set_cons_zero, List.set_cons_succ]
           refine wpAnyH_take (i := 26) (v := (.agg #[.int .i64 h.id, .int .i64 h.cf.1, .int .i64 h.cf.2.1, .int .i64 h.cf.2.2.1, .int .i64 h.cf.2.2.2.1, .int .i64 h.cf.2.2.2.2.1, .int .i64 h.cf.2.2.2.2.2.1, .int .i64 h.cf.2.2.2.2.2.2.1, .int .i64 h.cf.2.2.2.2.2.2.2.1, .int .i64 h.cf.2.2.2.2.2.2.2.2, .slice h.kA h.kn h.kc, .slice h.fA h.fn h.fc, .bool h.over])) rfl (by kernel_rfl) (by kernel_rfl) (by kernel_rfl) (fun _ _ _ h => h) (Or.inl ⟨by rfl, ?_⟩) hHeld ?_
           · intro wq hSw; (try dsimp only at hSw); exact exec_loadRow 29 _ rfl w.heap.size rfl 29 _ _ _ ((hSw.block _ la).trans hA) Try.underlying29 rfl (by kernel_rfl)
           try simp only [Act.put, List.getElem_toArray, List.getElem_cons_succ, List.getElem_cons_zero, List.setIfInBounds_toArray, List.set_cons_zero, List.set_cons_succ]
           refine wpAnyH_take (i := 28) (v := (.agg #[.int .i64 h.id, .int .i64 h.cf.1, .int .i64 h.cf.2.1, .int .i64 h.cf.2.2.1, .int .i64 h.cf.2.2.2.1, .int .i64 h.cf.2.2.2.2.1, .int .i64 h.cf.2.2.2.2.2.1, .int .i64 h.cf.2.2.2.2.2.2.1, .int .i64 h.cf.2.2.2.2.2.2.2.1, .int .i64 h.cf.2.2.2.2.2.2.2.2, .slice h.kA h.kn h.kc, .slice h.fA h.fn h.fc, .bool h.over])) rfl (by kernel_rfl) (by kernel_rfl) (by kernel_rfl) (fun _ _ _ h => h) (Or.inl ⟨by rfl, ?_⟩) hHeld ?_
           · intro wq hSw; (try dsimp only at hSw); exact exec_loadRow 29 _ rfl w.heap.size rfl 29 _ _ _ ((hSw.block _ la).trans hA) Try.underlying29 rfl (by kernel_rfl)
           try simp only [Act.put, List.getElem_toArray, List.getElem_cons_succ, List.getElem_cons_zero, List.setIfInBounds_toArray, List.set_cons_zero, List.set_cons_succ]
           refine wpAnyH_listed (listed' := #[true, true, true, true, true, true, true, true, true, true, true, true, true, true, true, true, true, true, true, true, true, true, true, true, true, true, true, false, true, false, false, false, false, false, false, false, false, false, false, false, false, false, false, false, false]) (by kernel_rfl) ?_
           exact hmeet A1 c1 A2 c2 B16 B21 _ hS trivial
          refine AllReadyH.cons rfl (fun K hK => ?_) AllReadyH.nil
          refine step_buildSt (by rfl) (.tmp 89) (by rfl) m.t (by rfl) ?_; intro B21 wx h21 hbx; (try replace h16 := (Recs.below h16 hbx).more hbx.size); replace hS := hS.trans (hbx.mono hS.size); clear hbx
          refine hK.out _ _ ?_ (fun hHeld => ?_)
          · (try dsimp only); first | done | (exact hS)
          clear hK K
          try simp only [Act.put, List.getElem_toArray, List.getElem_cons_succ, List.getElem_cons_zero, List.setIfInBounds_toArray, List.set_cons_zero, List.set_cons_succ]
          refine wpAnyH_ready (rs := [16]) (by kernel_rfl) (by simp) ?_
          refine AllReadyH.cons rfl (fun K hK => ?_) AllReadyH.nil
          refine step_buildSt (by rfl) (.tmp 84) (by rfl) m.t (by rfl) ?_; intro B16 wx h16 hbx; (try replace h21 := (Recs.below h21 hbx).more hbx.size); replace hS := hS.trans (hbx.mono hS.size); clear hbx
          refine hK.out _ _ ?_ (fun hHeld => ?_)
          · (try dsimp only); first | done | (exact hS)
          clear hK K
          try simp only [Act.put, List.getElem_toArray, List.getElem_cons_succ, List.getElem_cons_zero, List.setIfInBounds_toArray, List.set_cons_zero, List.set_cons_succ]
          refine wpAnyH_ready (rs := [17]) (by kernel_rfl) (by simp) ?_
          refine AllReadyH.cons rfl (fun K hK => ?_) AllReadyH.nil
          go_simp; go_at_call 13; have hfl := Flies_any h l fs B16 1 1 [m.t] _ (hN.next hS) HK.out.2.1 h16 (by omega); rw [HFV.out] at hfl; refine hfl.mono ?_; rintro e wx ⟨rfl, hbx⟩; clear hfl; (try replace h21 := (Recs.below h21 hbx).more hbx.size); replace hS := hS.trans (hbx.mono hS.size); clear hbx; try go_wp2_with fail
          refine hK.out _ _ ?_ (fun hHeld => ?_)
          · (try dsimp only); first | done | (exact hS)
          clear hK K
          try simp only [Act.put, List.getElem_toArray, List.getElem_cons_succ, List.getElem_cons_zero, List.setIfInBounds_toArray, List.set_cons_zero, List.set_cons_succ]
          refine wpAnyH_ready (rs := [22]) (by kernel_rfl) (by simp) ?_
          refine AllReadyH.cons rfl (fun K hK => ?_) AllReadyH.nil
          go_simp; go_at_call 24; have hfl := rFlies_any h l fs B21 1 1 [m.t] _ (hN.next hS) HK.out.2.1 h21 (by omega); rw [HFV.out] at hfl; refine hfl.mono ?_; rintro e wx ⟨rfl, hbx⟩; clear hfl; (try replace h16 := (Recs.below h16 hbx).more hbx.size); replace hS := hS.trans (hbx.mono hS.size); clear hbx; try go_wp2_with fail
          refine hK.out _ _ ?_ (fun hHeld => ?_)
          · (try dsimp only); first | done | (exact hS)
          clear hK K
          try simp only [Act.put, List.getElem_toArray, List.getElem_cons_succ, List.getElem_cons_zero, List.setIfInBounds_toArray, List.set_cons_zero, List.set_cons_succ]
          first
           | (refine wpAnyH_take (i := 23) (v := ?_) rfl (by kernel_rfl) (by kernel_rfl) (by kernel_rfl) (fun _ _ _ h => h) (Or.inl ⟨by rfl, ?_⟩) hHeld ?_; rotate_left; (intro wq hSw; (try dsimp only at hSw); go_simp; done))
           | (refine wpAnyH_take (i := 23) (v := ?_) rfl (by kernel_rfl) (by kernel_rfl) (by kernel_rfl) (fun _ _ _ h => h) (Or.inl ⟨by rfl, ?_⟩) hHeld ?_; rotate_left; (intro wq hSw; (try dsimp only at hSw); go_simp; with_reducible rfl))
          try simp only [Act.put, List.getElem_toArray, List.getElem_cons_succ, List.getElem_cons_zero, List.setIfInBounds_toArray, List.set_cons_zero, List.set_cons_succ]
          first
           | (refine wpAnyH_take (i := 24) (v := ?_) rfl (by kernel_rfl) (by kernel_rfl) (by kernel_rfl) (fun _ _ _ h => h) (Or.inl ⟨by rfl, ?_⟩) hHeld ?_; rotate_left; (intro wq hSw; (try dsimp only at hSw); go_simp; done))
           | (refine wpAnyH_take (i := 24) (v := ?_) rfl (by kernel_rfl) (by kernel_rfl) (by kernel_rfl) (fun _ _ _ h => h) (Or.inl ⟨by rfl, ?_⟩) hHeld ?_; rotate_left; (intro wq hSw; (try dsimp only at hSw); go_simp; with_reducible rfl))
          try simp only [Act.put, List.getElem_toArray, List.getElem_cons_succ, List.getElem_cons_zero, List.setIfInBounds_toArray, List.set_cons_zero, List.set_cons_succ]
          first
           | (refine wpAnyH_take (i := 25) (v := ?_) rfl (by kernel_rfl) (by kernel_rfl) (by kernel_rfl) (fun _ _ _ h => h) (Or.inl ⟨by rfl, ?_⟩) hHeld ?_; rotate_left; (intro wq hSw; (try dsimp only at hSw); go_simp; done))
           | (refine wpAnyH_take (i := 25) (v := ?_) rfl (by kernel_rfl) (by kernel_rfl) (by kernel_rfl) (fun _ _ _ h => h) (Or.inl ⟨by rfl, ?_⟩) hHeld ?_; rotate_left; (intro wq hSw; (try dsimp only at hSw); go_simp; with_reducible rfl))
          try simp only [Act.put, List.getElem_toArray, List.getElem_cons_succ, List.getElem_cons_zero, List.setIfInBounds_toArray, List.set_cons_zero, List.set_cons_succ]
          refine wpAnyH_take (i := 26) (v := (.agg #[.int .i64 h.id, .int .i64 h.cf.1, .int .i64 h.cf.2.1, .int .i64 h.cf.2.2.1, .int .i64 h.cf.2.2.2.1, .int .i64 h.cf.2.2.2.2.1, .int .i64 h.cf.2.2.2.2.2.1, .int .i64 h.cf.2.2.2.2.2.2.1, .int .i64 h.cf.2.2.2.2.2.2.2.1, .int .i64 h.cf.2.2.2.2.2.2.2.2, .slice h.kA h.kn h.kc, .slice h.fA h.fn h.fc, .bool h.over])) rfl (by kernel_rfl) (by kernel_rfl) (by kernel_rfl) (fun _ _ _ h => h) (Or.inl ⟨by rfl, ?_⟩) hHeld ?_
          · intro wq hSw; (try dsimp only at hSw); exact exec_loadRow 29 _ rfl w.heap.size rfl 29 _ _ _ ((hSw.block _ la).trans hA) Try.underlying29 rfl (by kernel_rfl)
          try simp only [Act.put, List.getElem_toArray, List.getElem_cons_succ, List.getElem_cons_zero, List.setIfInBounds_toArray, List.set_cons_zero, List.set_cons_succ]
          refine wpAnyH_take (i := 28) (v := (.agg #[.int .i64 h.id, .int .i64 h.cf.1, .int .i64 h.cf.2.1, .int .i64 h.cf.2.2.1, .int .i64 h.cf.2.2.2.1, .int .i64 h.cf.2.2.2.2.1, .int .i64 h.cf.2.2.2.2.2.1, .int .i64 h.cf.2.2.2.2.2.2.1, .int .i64 h.cf.2.2.2.2.2.2.2.1, .int .i64 h.cf.2.2.2.2.2.2.2.2, .slice h.kA h.kn h.kc, .slice h.fA h.fn h.fc, .bool h.over])) rfl (by kernel_rfl) (by kernel_rfl) (by kernel_rfl) (fun _ _ _ h => h) (Or.inl ⟨by rfl, ?_⟩) hHeld ?_
          · intro wq hSw; (try dsimp only at hSw); exact exec_loadRow 29 _ rfl w.heap.size rfl 29 _ _ _ ((hSw.block _ la).trans hA) Try.underlying29 rfl (by kernel_rfl)
          try simp only [Act.put, List.getElem_toArray, List.getElem_cons_succ, List.getElem_cons_zero, List.setIfInBounds_toArray, List.set_cons_zero, List.set_cons_succ]
          refine wpAnyH_listed (listed' := #[true, true, true, true, true, true, true, true, true, true, true, true, true, true, true, true, true, true, true, true, true, true, true, true, true, true, true, false, true, false, false, false, false, false, false, false, false, false, false, false, false, false, false, false, false]) (by kernel_rfl) ?_
          exact hmeet A1 c1 A2 c2 B16 B21 _ hS trivial
        · clear hS hHeld
          intro A1 c1 A2 c2 B16 B21 V2 hHeld _
          have hS := hHeld
          refine wpAnyH_ready (rs := [27]) (by kernel_rfl) (by simp) ?_
          refine AllReadyH.cons rfl (fun K hK => ?_) AllReadyH.nil
          go_simp; go_at_call 11; have hfl := Asked_any h l fs _ (hN.next hS) HK.out.2.1 HK.out.2.2; rw [HAV.out] at hfl; refine hfl.mono ?_; rintro e wx ⟨rfl, hbx⟩; clear hfl; replace hS := hS.trans (hbx.mono hS.size); clear hbx; try go_wp2_with fail
          refine hK.out _ _ ?_ (fun hHeld => ?_)
          · (try dsimp only); first | done | (exact hS)
          clear hK K
          try simp only [Act.put, List.getElem_toArray, List.getElem_cons_succ, List.getElem_cons_zero, List.setIfInBounds_toArray, List.set_cons_zero, List.set_cons_succ]
          refine wpAnyH_ready (rs := [29]) (by kernel_rfl) (by simp) ?_
          refine AllReadyH.cons rfl (fun K hK => ?_) AllReadyH.nil
          go_simp; go_at_call 25; have hfl := rAsked18_any h l fs _ (hN.next hS) HK.out.2.1 HK.out.2.2; rw [HAV.out] at hfl; refine hfl.mono ?_; rintro e wx ⟨rfl, hbx⟩; clear hfl; replace hS := hS.trans (hbx.mono hS.size); clear hbx; try go_wp2_with fail
          refine hK.out _ _ ?_ (fun hHeld => ?_)
          · (try dsimp only); first | done | (exact hS)
          clear hK K
          try simp only [Act.put, List.getElem_toArray, List.getElem_cons_succ, List.getElem_cons_zero, List.setIfInBounds_toArray, List.set_cons_zero, List.set_cons_succ]
          first
           | (refine wpAnyH_take (i := 30) (v := ?_) rfl (by kernel_rfl) (by kernel_rfl) (by kernel_rfl) (fun _ _ _ h => h) (Or.inl ⟨by rfl, ?_⟩) hHeld ?_; rotate_left; (intro wq hSw; (try dsimp only at hSw); go_simp; done))
           | (refine wpAnyH_take (i := 30) (v := ?_) rfl (by kernel_rfl) (by kernel_rfl) (by kernel_rfl) (fun _ _ _ h => h) (Or.inl ⟨by rfl, ?_⟩) hHeld ?_; rotate_left; (intro wq hSw; (try dsimp only at hSw); go_simp; with_reducible rfl))
          try simp only [Act.put, List.getElem_toArray, List.getElem_cons_succ, List.getElem_cons_zero, List.setIfInBounds_toArray, List.set_cons_zero, List.set_cons_succ]
          first
           | (refine wpAnyH_take (i := 31) (v := ?_) rfl (by kernel_rfl) (by kernel_rfl) (by kernel_rfl) (fun _ _ _ h => h) (Or.inl ⟨by rfl, ?_⟩) hHeld ?_; rotate_left; (intro wq hSw; (try dsimp only at hSw); go_simp; done))
           | (refine wpAnyH_take (i := 31) (v := ?_) rfl (by kernel_rfl) (by kernel_rfl) (by kernel_rfl) (fun _ _ _ h => h) (Or.inl ⟨by rfl, ?_⟩) hHeld ?_; rotate_left; (intro wq hSw; (try dsimp only at hSw); go_simp; with_reducible rfl))
          try simp only [Act.put, List.getElem_toArray, List.getElem_cons_succ, List.getElem_cons_zero, List.setIfInBounds_toArray, List.set_cons_zero, List.set_cons_succ]
          first
           | (refine wpAnyH_take (i := 32) (v := ?_) rfl (by kernel_rfl) (by kernel_rfl) (by kernel_rfl) (fun _ _ _ h => h) (Or.inl ⟨by rfl, ?_⟩) hHeld ?_; rotate_left; (intro wq hSw; (try dsimp only at hSw); go_simp; done))
           | (refine wpAnyH_take (i := 32) (v := ?_) rfl (by kernel_rfl) (by kernel_rfl) (by kernel_rfl) (fun _ _ _ h => h) (Or.inl ⟨by rfl, ?_⟩) hHeld ?_; rotate_left; (intro wq hSw; (try dsimp only at hSw); go_simp; with_reducible rfl))
          try simp only [Act.put, List.getElem_toArray, List.getElem_cons_succ, List.getElem_cons_zero, List.setIfInBounds_toArray, List.set_cons_zero, List.set_cons_succ]
          refine wpAnyH_take (i := 33) (v := (.agg #[.int .i64 h.id, .int .i64 h.cf.1, .int .i64 h.cf.2.1, .int .i64 h.cf.2.2.1, .int .i64 h.cf.2.2.2.1, .int .i64 h.cf.2.2.2.2.1, .int .i64 h.cf.2.2.2.2.2.1, .int .i64 h.cf.2.2.2.2.2.2.1, .int .i64 h.cf.2.2.2.2.2.2.2.1, .int .i64 h.cf.2.2.2.2.2.2.2.2, .slice h.kA h.kn h.kc, .slice h.fA h.fn h.fc, .bool h.over])) rfl (by kernel_rfl) (by kernel_rfl) (by kernel_rfl) (fun _ _ _ h => h) (Or.inl ⟨by rfl, ?_⟩) hHeld ?_
          · intro wq hSw; (try dsimp only at hSw); exact exec_loadRow 29 _ rfl w.heap.size rfl 29 _ _ _ ((hSw.block _ la).trans hA) Try.underlying29 rfl (by kernel_rfl)
          try simp only [Act.put, List.getElem_toArray, List.getElem_cons_succ, List.getElem_cons_zero, List.setIfInBounds_toArray, List.set_cons_zero, List.set_cons_succ]
          refine wpAnyH_take (i := 34) (v := (.agg #[.int .i64 o.id, .int .i64 o.cf.1, .int .i64 o.cf.2.1, .int .i64 o.cf.2.2.1, .int .i64 o.cf.2.2.2.1, .int .i64 o.cf.2.2.2.2.1, .int .i64 o.cf.2.2.2.2.2.1, .int .i64 o.cf.2.2.2.2.2.2.1, .int .i64 o.cf.2.2.2.2.2.2.2.1, .int .i64 o.cf.2.2.2.2.2.2.2.2, .slice o.kA o.kn o.kc, .slice o.fA o.fn o.fc, .bool o.over])) rfl (by kernel_rfl) (by kernel_rfl) (by kernel_rfl) (fun _ _ _ h => h) (Or.inl ⟨by rfl, ?_⟩) hHeld ?_
          · intro wq hSw; (try dsimp only at hSw); exact exec_loadRow 29 _ rfl (w.heap.size + 1) rfl 29 _ _ _ ((hSw.block _ lo').trans hO) Try.underlying29 rfl (by kernel_rfl)
          try simp only [Act.put, List.getElem_toArray, List.getElem_cons_succ, List.getElem_cons_zero, List.setIfInBounds_toArray, List.set_cons_zero, List.set_cons_succ]
          refine wpAnyH_take (i := 36) (v := (.agg #[.int .i64 h.id, .int .i64 h.cf.1, .int .i64 h.cf.2.1, .int .i64 h.cf.2.2.1, .int .i64 h.cf.2.2.2.1, .int .i64 h.cf.2.2.2.2.1, .int .i64 h.cf.2.2.2.2.2.1, .int .i64 h.cf.2.2.2.2.2.2.1, .int .i64 h.cf.2.2.2.2.2.2.2.1, .int .i64 h.cf.2.2.2.2.2.2.2.2, .slice h.kA h.kn h.kc, .slice h.fA h.fn h.fc, .bool h.over])) rfl (by kernel_rfl) (by kernel_rfl) (by kernel_rfl) (fun _ _ _ h => h) (Or.inl ⟨by rfl, ?_⟩) hHeld ?_
          · intro wq hSw; (try dsimp only at hSw); exact exec_loadRow 29 _ rfl w.heap.size rfl 29 _ _ _ ((hSw.block _ la).trans hA) Try.underlying29 rfl (by kernel_rfl)
          try simp only [Act.put, List.getElem_toArray, List.getElem_cons_succ, List.getElem_cons_zero, List.setIfInBounds_toArray, List.set_cons_zero, List.set_cons_succ]
          refine wpAnyH_take (i := 37) (v := (.agg #[.int .i64 o.id, .int .i64 o.cf.1, .int .i64 o.cf.2.1, .int .i64 o.cf.2.2.1, .int .i64 o.cf.2.2.2.1, .int .i64 o.cf.2.2.2.2.1, .int .i64 o.cf.2.2.2.2.2.1, .int .i64 o.cf.2.2.2.2.2.2.1, .int .i64 o.cf.2.2.2.2.2.2.2.1, .int .i64 o.cf.2.2.2.2.2.2.2.2, .slice o.kA o.kn o.kc, .slice o.fA o.fn o.fc, .bool o.over])) rfl (by kernel_rfl) (by kernel_rfl) (by kernel_rfl) (fun _ _ _ h => h) (Or.inl ⟨by rfl, ?_⟩) hHeld ?_
          · intro wq hSw; (try dsimp only at hSw); exact exec_loadRow 29 _ rfl (w.heap.size + 1) rfl 29 _ _ _ ((hSw.block _ lo').trans hO) Try.underlying29 rfl (by kernel_rfl)
          try simp only [Act.put, List.getElem_toArray, List.getElem_cons_succ, List.getElem_cons_zero, List.setIfInBounds_toArray, List.set_cons_zero, List.set_cons_succ]
          refine wpAnyH_ready (rs := [35]) (by kernel_rfl) (by simp) ?_
          refine AllReadyH.cons rfl (fun K hK => ?_) AllReadyH.nil
          go_simp; go_at_call 26; have hfl := Same18_any h o l lo fs fo _ (hN.next hS) (hM.next hS) (Nat.le_trans HK.out.1 (by omega)) (Nat.le_trans HO.out.1 (by omega)) HK.out.2.1 HO.out.2.1 HK.out.2.2 HO.out.2.2; rw [HSV.out] at hfl; refine hfl.mono ?_; rintro e wx ⟨rfl, hbx⟩; clear hfl; replace hS := hS.trans (hbx.mono hS.size); clear hbx; try go_wp2_with fail
          refine hK.out _ _ ?_ (fun hHeld => ?_)
          · (try dsimp only); first | done | (exact hS)
          clear hK K
          try simp only [Act.put, List.getElem_toArray, List.getElem_cons_succ, List.getElem_cons_zero, List.setIfInBounds_toArray, List.set_cons_zero, List.set_cons_succ]
          refine wpAnyH_ready (rs := [38]) (by kernel_rfl) (by simp) ?_
          refine AllReadyH.cons rfl (fun K hK => ?_) AllReadyH.nil
          go_simp; go_at_call 16; have hfl := rSame18_any h o l lo fs fo _ (hN.next hS) (hM.next hS) (Nat.le_trans HK.out.1 (by omega)) (Nat.le_trans HO.out.1 (by omega)) HK.out.2.1 HO.out.2.1 HK.out.2.2 HO.out.2.2; rw [HSV.out] at hfl; refine hfl.mono ?_; rintro e wx ⟨rfl, hbx⟩; clear hfl; replace hS := hS.trans (hbx.mono hS.size); clear hbx; try go_wp2_with fail
          refine hK.out _ _ ?_ (fun hHeld => ?_)
          · (try dsimp only); first | done | (exact hS)
          clear hK K
          try simp only [Act.put, List.getElem_toArray, List.getElem_cons_succ, List.getElem_cons_zero, List.setIfInBounds_toArray, List.set_cons_zero, List.set_cons_succ]
          first
           | (refine wpAnyH_take (i := 39) (v := ?_) rfl (by kernel_rfl) (by kernel_rfl) (by kernel_rfl) (fun _ _ _ h => h) (Or.inl ⟨by rfl, ?_⟩) hHeld ?_; rotate_left; (intro wq hSw; (try dsimp only at hSw); go_simp; done))
           | (refine wpAnyH_take (i := 39) (v := ?_) rfl (by kernel_rfl) (by kernel_rfl) (by kernel_rfl) (fun _ _ _ h => h) (Or.inl ⟨by rfl, ?_⟩) hHeld ?_; rotate_left; (intro wq hSw; (try dsimp only at hSw); go_simp; with_reducible rfl))
          try simp only [Act.put, List.getElem_toArray, List.getElem_cons_succ, List.getElem_cons_zero, List.setIfInBounds_toArray, List.set_cons_zero, List.set_cons_succ]
          first
           | (refine wpAnyH_take (i := 40) (v := ?_) rfl (by kernel_rfl) (by kernel_rfl) (by kernel_rfl) (fun _ _ _ h => h) (Or.inl ⟨by rfl, ?_⟩) hHeld ?_; rotate_left; (intro wq hSw; (try dsimp only at hSw); go_simp; done))
           | (refine wpAnyH_take (i := 40) (v := ?_) rfl (by kernel_rfl) (by kernel_rfl) (by kernel_rfl) (fun _ _ _ h => h) (Or.inl ⟨by rfl, ?_⟩) hHeld ?_; rotate_left; (intro wq hSw; (try dsimp only at hSw); go_simp; with_reducible rfl))
          try simp only [Act.put, List.getElem_toArray, List.getElem_cons_succ, List.getElem_cons_zero, List.setIfInBounds_toArray, List.set_cons_zero, List.set_cons_succ]
          first
           | (refine wpAnyH_take (i := 41) (v := ?_) rfl (by kernel_rfl) (by kernel_rfl) (by kernel_rfl) (fun _ _ _ h => h) (Or.inl ⟨by rfl, ?_⟩) hHeld ?_; rotate_left; (intro wq hSw; (try dsimp only at hSw); go_simp; done))
           | (refine wpAnyH_take (i := 41) (v := ?_) rfl (by kernel_rfl) (by kernel_rfl) (by kernel_rfl) (fun _ _ _ h => h) (Or.inl ⟨by rfl, ?_⟩) hHeld ?_; rotate_left; (intro wq hSw; (try dsimp only at hSw); go_simp; with_reducible rfl))
          try simp only [Act.put, List.getElem_toArray, List.getElem_cons_succ, List.getElem_cons_zero, List.setIfInBounds_toArray, List.set_cons_zero, List.set_cons_succ]
          refine wpAnyH_ready (rs := [42]) (by kernel_rfl) (by simp) ?_
          refine AllReadyH.cons rfl (fun K hK => ?_) AllReadyH.nil
          go_simp; go_at_call 7; refine (wakes18_any _).mono ?_; rintro e wx ⟨rfl, hbx⟩; replace hS := hS.trans (hbx.mono hS.size); clear hbx; try go_wp2_with fail
          refine hK.out _ _ ?_ (fun hHeld => ?_)
          · (try dsimp only); first | done | (exact hS)
          clear hK K
          try simp only [Act.put, List.getElem_toArray, List.getElem_cons_succ, List.getElem_cons_zero, List.setIfInBounds_toArray, List.set_cons_zero, List.set_cons_succ]
          first
           | (refine wpAnyH_take (i := 43) (v := ?_) rfl (by kernel_rfl) (by kernel_rfl) (by kernel_rfl) (fun _ _ _ h => h) (Or.inl ⟨by rfl, ?_⟩) hHeld ?_; rotate_left; (intro wq hSw; (try dsimp only at hSw); go_simp; done))
           | (refine wpAnyH_take (i := 43) (v := ?_) rfl (by kernel_rfl) (by kernel_rfl) (by kernel_rfl) (fun _ _ _ h => h) (Or.inl ⟨by rfl, ?_⟩) hHeld ?_; rotate_left; (intro wq hSw; (try dsimp only at hSw); go_simp; with_reducible rfl))
          try simp only [Act.put, List.getElem_toArray, List.getElem_cons_succ, List.getElem_cons_zero, List.setIfInBounds_toArray, List.set_cons_zero, List.set_cons_succ]
          first
           | (refine wpAnyH_take (i := 44) (v := ?_) rfl (by kernel_rfl) (by kernel_rfl) (by kernel_rfl) (fun _ _ _ h => h) (Or.inl ⟨by rfl, ?_⟩) hHeld ?_; rotate_left; (intro wq hSw; (try dsimp only at hSw); go_simp; done))
           | (refine wpAnyH_take (i := 44) (v := ?_) rfl (by kernel_rfl) (by kernel_rfl) (by kernel_rfl) (fun _ _ _ h => h) (Or.inl ⟨by rfl, ?_⟩) hHeld ?_; rotate_left; (intro wq hSw; (try dsimp only at hSw); go_simp; with_reducible rfl))
          try simp only [Act.put, List.getElem_toArray, List.getElem_cons_succ, List.getElem_cons_zero, List.setIfInBounds_toArray, List.set_cons_zero, List.set_cons_succ]
          refine wpAnyH_done (by kernel_rfl) ?_ _
          (go_wp2_with fail; go_ret; exact ⟨rfl, hB.trans (hHeld.mono hB.size)⟩)
end Go.Proofs.Ytfahmfaakjnpcaa
